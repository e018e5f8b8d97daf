/- Functions that a law of this seat reaches: written by a program of this session (wip/xprint.py), and by hand. -/
import Derived.Test.YthajjjpblkhmmaaYCLx0
import Derived.Test.YthajjjpblkhmmaaYCLx4
import Derived.Test.YthajjjpblkhmmaaYCLx6
import Derived.Test.YthajjjpblkhmmaaYCLx7
import Derived.Test.YthajjjpblkhmmaaYCLx8
import Derived.Test.YthajjjpblkhmmaaYCLx14
import Derived.Test.YthajjjpblkhmmaaYCLx15
namespace Go.Proofs.Ythajjjpblkhmmaa.CL
open Go.RowKit Go.Proofs.Ythajjjpblkhmmaa.B Go.Proofs.YthajjjpblkhmmaaW.PrintWords Go.Proofs.YthajjjpblkhmmaaW.PrintLast Go.Proofs.YthajjjpblkhmmaaW.PrintMore
attribute [local go_sem] max2_int min2_int max_two min_two max_three min_three max_four min_four   -- for this text's walks alone
set_option linter.unusedVariables false
set_option linter.unusedSimpArgs false

/-! ### laws_FnExactLeftOf: function 13 -/
def laws_FnExactLeftOf.j0 : Nat → List (S24) → List (List Int) → List (List Int) → Bool → Int → Int → Int → Int → List (S130) → Option (Bool)
  | 0, _, _, _, _, _, _, _, _, _ => none
  | k + 1, x1, x6, x9, x63, x320000, x320001, x320002, x320003, x320004 => if x63 = true then (some false) else ((laws_markIntSS.f k x9 1).bind fun bt367 => ((laws_heldIntSS.f k bt367.2 1).bind fun t369 => (if t369 < 0 then (some false) else (if t369 = bt367.1 then ((laws_toFrame.f k x320000 x320001 x320002 x320003 x320004).bind fun bt370 => ((laws_toScanS.f k x1).bind fun t377 => ((impl_LeftOf.f k bt370.1 bt370.2.1 bt370.2.2.1 bt370.2.2.2.1 bt370.2.2.2.2 t377).bind fun t380 => ((laws_eqIntSS.f k t380 x6).bind fun t383 => (if t383 = true then ((laws_heldIntSS.f k bt367.2 1).bind fun t384 => (if t384 < 0 then (some false) else (if t384 = bt367.1 then (some true) else (some false)))) else (some false)))))) else (some false)))))
def laws_FnExactLeftOf.f (k : Nat) (a0_0 : Int) (a0_1 : Int) (a0_2 : Int) (a0_3 : Int) (l0_4 : List (S130)) (l1 : List (S24)) : Option (Bool) := (laws_szFrame.f a0_0 a0_1 a0_2 a0_3 l0_4 1048576).bind fun t320 => (if t320 < 0 then (some true) else ((laws_szScanS.f k l1 t320).bind fun t321 => (if t321 < 0 then (some true) else ((laws_toFrame.f k a0_0 a0_1 a0_2 a0_3 l0_4).bind fun bt322 => ((laws_toScanS.f k l1).bind fun t329 => ((spec_LeftOf.f k bt322.1 bt322.2.1 bt322.2.2.1 bt322.2.2.2.1 bt322.2.2.2.2 t329).bind fun t332 => ((laws_toFrame.f k a0_0 a0_1 a0_2 a0_3 l0_4).bind fun bt335 => ((laws_toScanS.f k l1).bind fun t343 => ((impl_LeftOf.f k bt335.1 bt335.2.1 bt335.2.2.1 bt335.2.2.2.1 bt335.2.2.2.2 t343).bind fun t346 => ((laws_eqIntSS.f k t346 t332).bind fun t349 => (if t349 = true then ((laws_toFrame.f k a0_0 a0_1 a0_2 a0_3 l0_4).bind fun bt350 => ((laws_eqFrame.f k bt335.1 bt335.2.1 bt335.2.2.1 bt335.2.2.2.1 bt335.2.2.2.2 bt350.1 bt350.2.1 bt350.2.2.1 bt350.2.2.2.1 bt350.2.2.2.2).bind fun t357 => (if t357 = true then ((laws_toScanS.f k l1).bind fun t358 => ((laws_eqScanS.f k t343 t358).bind fun t361 => (if t361 = true then ((laws_markFrame.f k bt335.1 bt335.2.1 bt335.2.2.1 bt335.2.2.2.1 bt335.2.2.2.2 1).bind fun bt362 => ((laws_markScanS.f k t343 bt362.1).bind fun bt364 => (if bt364.1 < 0 then (laws_FnExactLeftOf.j0 k l1 t332 t346 true a0_0 a0_1 a0_2 a0_3 l0_4) else ((laws_eqIntSS.f k t346 t332).bind fun t366 => (laws_FnExactLeftOf.j0 k l1 t332 t346 (!t366) a0_0 a0_1 a0_2 a0_3 l0_4))))) else (some false)))) else (some false)))) else (some false))))))))))))
theorem laws_FnExactLeftOf.mono_l : ∀ k, (∀ y0 y1 y2 y3 y4 y5 y6 y7 y8, LeO (laws_FnExactLeftOf.j0 k y0 y1 y2 y3 y4 y5 y6 y7 y8) (laws_FnExactLeftOf.j0 (k + 1) y0 y1 y2 y3 y4 y5 y6 y7 y8))
 | 0 => fun _ _ _ _ _ _ _ _ _ r h => by simp [laws_FnExactLeftOf.j0] at h
 | k + 1 => by
  have ih0 := laws_FnExactLeftOf.mono_l k
  ·intro y0 y1 y2 y3 y4 y5 y6 y7 y8
   unfold laws_FnExactLeftOf.j0
   repeat' first
   | (with_reducible exact ih0 _ _ _ _ _ _ _ _ _)
   | (with_reducible exact impl_LeftOf.mono _ _ _ _ _ _ _)
   | (with_reducible exact laws_eqFrame.mono _ _ _ _ _ _ _ _ _ _ _)
   | (with_reducible exact laws_eqIntSS.mono _ _ _)
   | (with_reducible exact laws_eqScanS.mono _ _ _)
   | (with_reducible exact laws_heldIntSS.mono _ _ _)
   | (with_reducible exact laws_markFrame.mono _ _ _ _ _ _ _)
   | (with_reducible exact laws_markIntSS.mono _ _ _)
   | (with_reducible exact laws_markScanS.mono _ _ _)
   | (with_reducible exact laws_szScanS.mono _ _ _)
   | (with_reducible exact laws_toFrame.mono _ _ _ _ _ _)
   | (with_reducible exact laws_toScanS.mono _ _)
   | (with_reducible exact spec_LeftOf.mono _ _ _ _ _ _ _)
   | (with_reducible exact LeO.refl _)
   | (with_reducible exact LeO.none _)
   | (with_reducible refine LeO.ite ?_ ?_)
   | (with_reducible refine LeO.bind ?_ (fun _ => ?_))
   | exact ih0 _ _ _ _ _ _ _ _ _
   | exact impl_LeftOf.mono _ _ _ _ _ _ _
   | exact laws_eqFrame.mono _ _ _ _ _ _ _ _ _ _ _
   | exact laws_eqIntSS.mono _ _ _
   | exact laws_eqScanS.mono _ _ _
   | exact laws_heldIntSS.mono _ _ _
   | exact laws_markFrame.mono _ _ _ _ _ _ _
   | exact laws_markIntSS.mono _ _ _
   | exact laws_markScanS.mono _ _ _
   | exact laws_szScanS.mono _ _ _
   | exact laws_toFrame.mono _ _ _ _ _ _
   | exact laws_toScanS.mono _ _
   | exact spec_LeftOf.mono _ _ _ _ _ _ _
   | exact LeO.none _
   | refine LeO.ite ?_ ?_
   | refine LeO.bind ?_ (fun _ => ?_)
theorem laws_FnExactLeftOf.mono : ∀ a0 a1 a2 a3 a4 a5 k, LeO (laws_FnExactLeftOf.f k a0 a1 a2 a3 a4 a5) (laws_FnExactLeftOf.f (k + 1) a0 a1 a2 a3 a4 a5) := by
 intro a0 a1 a2 a3 a4 a5 k
 have ih0 := laws_FnExactLeftOf.mono_l k
 unfold laws_FnExactLeftOf.f
 repeat' first
   | (with_reducible exact ih0 _ _ _ _ _ _ _ _ _)
   | (with_reducible exact impl_LeftOf.mono _ _ _ _ _ _ _)
   | (with_reducible exact laws_eqFrame.mono _ _ _ _ _ _ _ _ _ _ _)
   | (with_reducible exact laws_eqIntSS.mono _ _ _)
   | (with_reducible exact laws_eqScanS.mono _ _ _)
   | (with_reducible exact laws_heldIntSS.mono _ _ _)
   | (with_reducible exact laws_markFrame.mono _ _ _ _ _ _ _)
   | (with_reducible exact laws_markIntSS.mono _ _ _)
   | (with_reducible exact laws_markScanS.mono _ _ _)
   | (with_reducible exact laws_szScanS.mono _ _ _)
   | (with_reducible exact laws_toFrame.mono _ _ _ _ _ _)
   | (with_reducible exact laws_toScanS.mono _ _)
   | (with_reducible exact spec_LeftOf.mono _ _ _ _ _ _ _)
   | (with_reducible exact LeO.refl _)
   | (with_reducible exact LeO.none _)
   | (with_reducible refine LeO.ite ?_ ?_)
   | (with_reducible refine LeO.bind ?_ (fun _ => ?_))
   | exact ih0 _ _ _ _ _ _ _ _ _
   | exact impl_LeftOf.mono _ _ _ _ _ _ _
   | exact laws_eqFrame.mono _ _ _ _ _ _ _ _ _ _ _
   | exact laws_eqIntSS.mono _ _ _
   | exact laws_eqScanS.mono _ _ _
   | exact laws_heldIntSS.mono _ _ _
   | exact laws_markFrame.mono _ _ _ _ _ _ _
   | exact laws_markIntSS.mono _ _ _
   | exact laws_markScanS.mono _ _ _
   | exact laws_szScanS.mono _ _ _
   | exact laws_toFrame.mono _ _ _ _ _ _
   | exact laws_toScanS.mono _ _
   | exact spec_LeftOf.mono _ _ _ _ _ _ _
   | exact LeO.none _
   | refine LeO.ite ?_ ?_
   | refine LeO.bind ?_ (fun _ => ?_)
set_option maxHeartbeats 8000000 in
set_option maxRecDepth 100000 in
theorem laws_FnExactLeftOf.calls (k : Nat) (a0_0 : Int) (a0_1 : Int) (a0_2 : Int) (a0_3 : Int) (A0_4 : Option Addr) (c0_4 : Nat) (l0_4 : List (S130)) (A1 : Option Addr) (c1 : Nat) (l1 : List (S24)) (r : Bool) (w : World) (hr0_4 : Kd.C k130 w A0_4 l0_4.length l0_4) (hc0_4 : l0_4.length ≤ c0_4) (hr1 : Kd.C k24 w A1 l1.length l1) (hc1 : l1.length ≤ c1) (HTRUE_ : Aside0 (r = true)) (h : laws_FnExactLeftOf.f k a0_0 a0_1 a0_2 a0_3 l0_4 l1 = some r) :
  Calls Try.prog 13 #[.agg #[.int .i64 a0_0, .int .i64 a0_1, .int .i64 a0_2, .int .i64 a0_3, .slice A0_4 l0_4.length c0_4], .slice A1 l1.length c1] w fun e w' => e = .returned (.bool r) ∧ Below w.heap.size w w' := by
 have hu55 := Try.underlying55
 have hu45 := Try.underlying45
 have HR0_4 := aM hr0_4
 have HC0_4 := aM hc0_4
 clear hr0_4 hc0_4
 have HR1 := aM hr1
 have HC1 := aM hc1
 clear hr1 hc1
 have HB := aM (Below.refl w.heap.size w)
 have H : ((laws_szFrame.f a0_0 a0_1 a0_2 a0_3 l0_4 1048576).bind fun t320 => (if t320 < 0 then (some true) else ((laws_szScanS.f k l1 t320).bind fun t321 => (if t321 < 0 then (some true) else ((laws_toFrame.f k a0_0 a0_1 a0_2 a0_3 l0_4).bind fun bt322 => ((laws_toScanS.f k l1).bind fun t329 => ((spec_LeftOf.f k bt322.1 bt322.2.1 bt322.2.2.1 bt322.2.2.2.1 bt322.2.2.2.2 t329).bind fun t332 => ((laws_toFrame.f k a0_0 a0_1 a0_2 a0_3 l0_4).bind fun bt335 => ((laws_toScanS.f k l1).bind fun t343 => ((impl_LeftOf.f k bt335.1 bt335.2.1 bt335.2.2.1 bt335.2.2.2.1 bt335.2.2.2.2 t343).bind fun t346 => ((laws_eqIntSS.f k t346 t332).bind fun t349 => (if t349 = true then ((laws_toFrame.f k a0_0 a0_1 a0_2 a0_3 l0_4).bind fun bt350 => ((laws_eqFrame.f k bt335.1 bt335.2.1 bt335.2.2.1 bt335.2.2.2.1 bt335.2.2.2.2 bt350.1 bt350.2.1 bt350.2.2.1 bt350.2.2.2.1 bt350.2.2.2.2).bind fun t357 => (if t357 = true then ((laws_toScanS.f k l1).bind fun t358 => ((laws_eqScanS.f k t343 t358).bind fun t361 => (if t361 = true then ((laws_markFrame.f k bt335.1 bt335.2.1 bt335.2.2.1 bt335.2.2.2.1 bt335.2.2.2.2 1).bind fun bt362 => ((laws_markScanS.f k t343 bt362.1).bind fun bt364 => (if bt364.1 < 0 then (laws_FnExactLeftOf.j0 k l1 t332 t346 true a0_0 a0_1 a0_2 a0_3 l0_4) else ((laws_eqIntSS.f k t346 t332).bind fun t366 => (laws_FnExactLeftOf.j0 k l1 t332 t346 (!t366) a0_0 a0_1 a0_2 a0_3 l0_4))))) else (some false)))) else (some false)))) else (some false))))))))))))) = some r := h
 clear h
 replace H := oB H
 obtain ⟨t320, A30, H⟩ := H
 replace H : (if t320 < 0 then (some true) else ((laws_szScanS.f k l1 t320).bind fun t321 => (if t321 < 0 then (some true) else ((laws_toFrame.f k a0_0 a0_1 a0_2 a0_3 l0_4).bind fun bt322 => ((laws_toScanS.f k l1).bind fun t329 => ((spec_LeftOf.f k bt322.1 bt322.2.1 bt322.2.2.1 bt322.2.2.2.1 bt322.2.2.2.2 t329).bind fun t332 => ((laws_toFrame.f k a0_0 a0_1 a0_2 a0_3 l0_4).bind fun bt335 => ((laws_toScanS.f k l1).bind fun t343 => ((impl_LeftOf.f k bt335.1 bt335.2.1 bt335.2.2.1 bt335.2.2.2.1 bt335.2.2.2.2 t343).bind fun t346 => ((laws_eqIntSS.f k t346 t332).bind fun t349 => (if t349 = true then ((laws_toFrame.f k a0_0 a0_1 a0_2 a0_3 l0_4).bind fun bt350 => ((laws_eqFrame.f k bt335.1 bt335.2.1 bt335.2.2.1 bt335.2.2.2.1 bt335.2.2.2.2 bt350.1 bt350.2.1 bt350.2.2.1 bt350.2.2.2.1 bt350.2.2.2.2).bind fun t357 => (if t357 = true then ((laws_toScanS.f k l1).bind fun t358 => ((laws_eqScanS.f k t343 t358).bind fun t361 => (if t361 = true then ((laws_markFrame.f k bt335.1 bt335.2.1 bt335.2.2.1 bt335.2.2.2.1 bt335.2.2.2.2 1).bind fun bt362 => ((laws_markScanS.f k t343 bt362.1).bind fun bt364 => (if bt364.1 < 0 then (laws_FnExactLeftOf.j0 k l1 t332 t346 true a0_0 a0_1 a0_2 a0_3 l0_4) else ((laws_eqIntSS.f k t346 t332).bind fun t366 => (laws_FnExactLeftOf.j0 k l1 t332 t346 (!t366) a0_0 a0_1 a0_2 a0_3 l0_4))))) else (some false)))) else (some false)))) else (some false)))))))))))) = some r := H
 have A3 := aM A30
 clear A30
 by_cases c4 : t320 < 0
 ·rw [if_pos c4] at H
  have c4b0 : decide (t320 < 0) = true := decide_eq_true c4
  clear c4
  obtain rfl := Option.some.inj H
  go_enter Try.func13, Try.ntmps13
  go_wp2_with (first | ((with_reducible refine gate_dst (N := 2) rfl ?_); refine box_event ?hg (N := 2) ?hd (cs := #[.int .i64 a0_0, .int .i64 a0_1, .int .i64 a0_2, .int .i64 a0_3, .slice A0_4 l0_4.length c0_4]) (t := 55) ?hr ?_; (case hd => rfl); (case hg => rfl); (case hr => first | (go_simp; done) | (go_simp; rfl)); intro gb319 hg w5 hbox hb; have n0_ := aM (below_step (by repeat (first | (with_reducible first | exact HB.out | apply bA | apply bN | apply b1) | exact HB.out)) hb); have n1_ := aM (hbox); have n2_ := aM ((by rw [hg]; exact (below_size (by repeat (first | (with_reducible first | exact HB.out | apply bA | apply bN | apply b1) | exact HB.out))) : w.heap.size ≤ gb319)); have n3_ := aM ((by rw [hg]; exact (below_size (by repeat (first | (with_reducible first | exact HB.out | apply bA | apply bN | apply b1) | exact HB.out))) : w.heap.size ≤ gb319)); clear HB; have HB := n0_; have BK319 := n1_; have GW319 := n2_; have GE319 := n3_; clear n0_ n1_ n2_ n3_; clear hb hbox hg; have hcz6_0 : w5.cell? ⟨gb319, 0, none⟩ = some (.int .i64 a0_0) := (kC BK319.out 0).trans rfl; have hcz6_1 : w5.cell? ⟨gb319, 1, none⟩ = some (.int .i64 a0_1) := (kC BK319.out 1).trans rfl; have hcz6_2 : w5.cell? ⟨gb319, 2, none⟩ = some (.int .i64 a0_2) := (kC BK319.out 2).trans rfl; have hcz6_3 : w5.cell? ⟨gb319, 3, none⟩ = some (.int .i64 a0_3) := (kC BK319.out 3).trans rfl; have hcz6_4 : w5.cell? ⟨gb319, 4, none⟩ = some (.slice A0_4 l0_4.length c0_4) := (kC BK319.out 4).trans rfl; have hfz6_0 := blk_frozen BK319.out 0; have hfz6_1 := blk_frozen BK319.out 1; have hfz6_2 := blk_frozen BK319.out 2; have hfz6_3 := blk_frozen BK319.out 3; have hfz6_4 := blk_frozen BK319.out 4) | ((with_reducible refine gate_callee (f := 39) rfl ?_); refine goesL_ (some 16) rfl rfl Try.func39 (by kernel_rfl) rfl #[.agg #[.int .i64 a0_0, .int .i64 a0_1, .int .i64 a0_2, .int .i64 a0_3, .slice A0_4 l0_4.length c0_4], .int .i64 1048576] rfl (by (try simp only [List.map_toArray, List.map_cons, List.map_nil]); first | done | rfl | (simp only [List.length_drop, List.length_take]; rfl)) ?_; (with_reducible refine (laws_szFrame.calls a0_0 a0_1 a0_2 a0_3 _ _ l0_4 1048576 t320 _ ?side1 ?side2 A3.out).mono ?_); (case side1 => repeat (first | exact (Kd.C_below HR0_4.out HB.out) | (with_reducible first | refine Kd.C_alloc ?_ _ | refine Kd.C_drewN ?_ _ | refine Kd.C_drew ?_))); (case side2 => exact HC0_4.out); rintro e w7 ⟨rfl, hb⟩; refine ⟨_, rfl, ?_⟩; have n0_ := aM (blk_below (g := gb319) (o := .cells #[.int .i64 a0_0, .int .i64 a0_1, .int .i64 a0_2, .int .i64 a0_3, .slice A0_4 l0_4.length c0_4] 55 (0, 0)) (by (with_reducible repeat (first | apply kN | apply kD | apply kA)); exact BK319.out) hb); have n1_ := aM (below_step (by repeat (first | (with_reducible first | exact HB.out | apply bA | apply bN | apply b1 | refine bS ?_ GE319.out) | exact HB.out)) hb); clear BK319; clear HB; have BK319 := n0_; have HB := n1_; clear n0_ n1_; (try clear hb); (try clear hb2); (try clear hk); (try clear hi)))
  go_ret
  exact ⟨by first | rfl | (simp [*, errW_none, errW_some] <;> rfl), by repeat (first | (with_reducible first | exact HB.out | apply bA | apply bN | apply b1 | refine bS ?_ GE319.out) | exact HB.out)⟩
 ·rw [if_neg c4] at H
  have c4b0 : decide (t320 < 0) = false := decide_eq_false c4
  clear c4
  replace H := oB H
  obtain ⟨t321, A80, H⟩ := H
  replace H : (if t321 < 0 then (some true) else ((laws_toFrame.f k a0_0 a0_1 a0_2 a0_3 l0_4).bind fun bt322 => ((laws_toScanS.f k l1).bind fun t329 => ((spec_LeftOf.f k bt322.1 bt322.2.1 bt322.2.2.1 bt322.2.2.2.1 bt322.2.2.2.2 t329).bind fun t332 => ((laws_toFrame.f k a0_0 a0_1 a0_2 a0_3 l0_4).bind fun bt335 => ((laws_toScanS.f k l1).bind fun t343 => ((impl_LeftOf.f k bt335.1 bt335.2.1 bt335.2.2.1 bt335.2.2.2.1 bt335.2.2.2.2 t343).bind fun t346 => ((laws_eqIntSS.f k t346 t332).bind fun t349 => (if t349 = true then ((laws_toFrame.f k a0_0 a0_1 a0_2 a0_3 l0_4).bind fun bt350 => ((laws_eqFrame.f k bt335.1 bt335.2.1 bt335.2.2.1 bt335.2.2.2.1 bt335.2.2.2.2 bt350.1 bt350.2.1 bt350.2.2.1 bt350.2.2.2.1 bt350.2.2.2.2).bind fun t357 => (if t357 = true then ((laws_toScanS.f k l1).bind fun t358 => ((laws_eqScanS.f k t343 t358).bind fun t361 => (if t361 = true then ((laws_markFrame.f k bt335.1 bt335.2.1 bt335.2.2.1 bt335.2.2.2.1 bt335.2.2.2.2 1).bind fun bt362 => ((laws_markScanS.f k t343 bt362.1).bind fun bt364 => (if bt364.1 < 0 then (laws_FnExactLeftOf.j0 k l1 t332 t346 true a0_0 a0_1 a0_2 a0_3 l0_4) else ((laws_eqIntSS.f k t346 t332).bind fun t366 => (laws_FnExactLeftOf.j0 k l1 t332 t346 (!t366) a0_0 a0_1 a0_2 a0_3 l0_4))))) else (some false)))) else (some false)))) else (some false)))))))))) = some r := H
  have A8 := aM A80
  clear A80
  by_cases c9 : t321 < 0
  ·rw [if_pos c9] at H
   have c9b0 : decide (t321 < 0) = true := decide_eq_true c9
   clear c9
   obtain rfl := Option.some.inj H
   go_enter Try.func13, Try.ntmps13
   go_wp2_with (first | ((with_reducible refine gate_dst (N := 2) rfl ?_); refine box_event ?hg (N := 2) ?hd (cs := #[.int .i64 a0_0, .int .i64 a0_1, .int .i64 a0_2, .int .i64 a0_3, .slice A0_4 l0_4.length c0_4]) (t := 55) ?hr ?_; (case hd => rfl); (case hg => rfl); (case hr => first | (go_simp; done) | (go_simp; rfl)); intro gb319 hg w10 hbox hb; have n0_ := aM (below_step (by repeat (first | (with_reducible first | exact HB.out | apply bA | apply bN | apply b1) | exact HB.out)) hb); have n1_ := aM (hbox); have n2_ := aM ((by rw [hg]; exact (below_size (by repeat (first | (with_reducible first | exact HB.out | apply bA | apply bN | apply b1) | exact HB.out))) : w.heap.size ≤ gb319)); have n3_ := aM ((by rw [hg]; exact (below_size (by repeat (first | (with_reducible first | exact HB.out | apply bA | apply bN | apply b1) | exact HB.out))) : w.heap.size ≤ gb319)); clear HB; have HB := n0_; have BK319 := n1_; have GW319 := n2_; have GE319 := n3_; clear n0_ n1_ n2_ n3_; clear hb hbox hg; have hcz11_0 : w10.cell? ⟨gb319, 0, none⟩ = some (.int .i64 a0_0) := (kC BK319.out 0).trans rfl; have hcz11_1 : w10.cell? ⟨gb319, 1, none⟩ = some (.int .i64 a0_1) := (kC BK319.out 1).trans rfl; have hcz11_2 : w10.cell? ⟨gb319, 2, none⟩ = some (.int .i64 a0_2) := (kC BK319.out 2).trans rfl; have hcz11_3 : w10.cell? ⟨gb319, 3, none⟩ = some (.int .i64 a0_3) := (kC BK319.out 3).trans rfl; have hcz11_4 : w10.cell? ⟨gb319, 4, none⟩ = some (.slice A0_4 l0_4.length c0_4) := (kC BK319.out 4).trans rfl; have hfz11_0 := blk_frozen BK319.out 0; have hfz11_1 := blk_frozen BK319.out 1; have hfz11_2 := blk_frozen BK319.out 2; have hfz11_3 := blk_frozen BK319.out 3; have hfz11_4 := blk_frozen BK319.out 4) | ((with_reducible refine gate_callee (f := 39) rfl ?_); refine goesL_ (some 16) rfl rfl Try.func39 (by kernel_rfl) rfl #[.agg #[.int .i64 a0_0, .int .i64 a0_1, .int .i64 a0_2, .int .i64 a0_3, .slice A0_4 l0_4.length c0_4], .int .i64 1048576] rfl (by (try simp only [List.map_toArray, List.map_cons, List.map_nil]); first | done | rfl | (simp only [List.length_drop, List.length_take]; rfl)) ?_; (with_reducible refine (laws_szFrame.calls a0_0 a0_1 a0_2 a0_3 _ _ l0_4 1048576 t320 _ ?side1 ?side2 A3.out).mono ?_); (case side1 => repeat (first | exact (Kd.C_below HR0_4.out HB.out) | (with_reducible first | refine Kd.C_alloc ?_ _ | refine Kd.C_drewN ?_ _ | refine Kd.C_drew ?_))); (case side2 => exact HC0_4.out); rintro e w12 ⟨rfl, hb⟩; refine ⟨_, rfl, ?_⟩; have n0_ := aM (blk_below (g := gb319) (o := .cells #[.int .i64 a0_0, .int .i64 a0_1, .int .i64 a0_2, .int .i64 a0_3, .slice A0_4 l0_4.length c0_4] 55 (0, 0)) (by (with_reducible repeat (first | apply kN | apply kD | apply kA)); exact BK319.out) hb); have n1_ := aM (below_step (by repeat (first | (with_reducible first | exact HB.out | apply bA | apply bN | apply b1 | refine bS ?_ GE319.out) | exact HB.out)) hb); clear BK319; clear HB; have BK319 := n0_; have HB := n1_; clear n0_ n1_; (try clear hb); (try clear hb2); (try clear hk); (try clear hi)) | ((with_reducible refine gate_callee (f := 58) rfl ?_); refine goesL_ (some 21) rfl rfl Try.func58 (by kernel_rfl) rfl #[.slice A1 l1.length c1, .int .i64 t320] rfl (by (try simp only [List.map_toArray, List.map_cons, List.map_nil]); first | done | rfl | (simp only [List.length_drop, List.length_take]; rfl)) ?_; (with_reducible refine (laws_szScanS.calls k _ _ l1 t320 t321 _ ?side1 ?side2 A8.out).mono ?_); (case side1 => repeat (first | exact (Kd.C_below HR1.out HB.out) | (with_reducible first | refine Kd.C_alloc ?_ _ | refine Kd.C_drewN ?_ _ | refine Kd.C_drew ?_))); (case side2 => exact HC1.out); rintro e w13 ⟨rfl, hb⟩; refine ⟨_, rfl, ?_⟩; have n0_ := aM (blk_below (g := gb319) (o := .cells #[.int .i64 a0_0, .int .i64 a0_1, .int .i64 a0_2, .int .i64 a0_3, .slice A0_4 l0_4.length c0_4] 55 (0, 0)) (by (with_reducible repeat (first | apply kN | apply kD | apply kA)); exact BK319.out) hb); have n1_ := aM (below_step (by repeat (first | (with_reducible first | exact HB.out | apply bA | apply bN | apply b1 | refine bS ?_ GE319.out) | exact HB.out)) hb); clear BK319; clear HB; have BK319 := n0_; have HB := n1_; clear n0_ n1_; (try clear hb); (try clear hb2); (try clear hk); (try clear hi)))
   go_ret
   exact ⟨by first | rfl | (simp [*, errW_none, errW_some] <;> rfl), by repeat (first | (with_reducible first | exact HB.out | apply bA | apply bN | apply b1 | refine bS ?_ GE319.out) | exact HB.out)⟩
  ·rw [if_neg c9] at H
   have c9b0 : decide (t321 < 0) = false := decide_eq_false c9
   clear c9
   replace H := oB H
   obtain ⟨⟨t322, t323, t324, t325, t326⟩, A140, H⟩ := H
   replace H : ((laws_toScanS.f k l1).bind fun t329 => ((spec_LeftOf.f k t322 t323 t324 t325 t326 t329).bind fun t332 => ((laws_toFrame.f k a0_0 a0_1 a0_2 a0_3 l0_4).bind fun bt335 => ((laws_toScanS.f k l1).bind fun t343 => ((impl_LeftOf.f k bt335.1 bt335.2.1 bt335.2.2.1 bt335.2.2.2.1 bt335.2.2.2.2 t343).bind fun t346 => ((laws_eqIntSS.f k t346 t332).bind fun t349 => (if t349 = true then ((laws_toFrame.f k a0_0 a0_1 a0_2 a0_3 l0_4).bind fun bt350 => ((laws_eqFrame.f k bt335.1 bt335.2.1 bt335.2.2.1 bt335.2.2.2.1 bt335.2.2.2.2 bt350.1 bt350.2.1 bt350.2.2.1 bt350.2.2.2.1 bt350.2.2.2.2).bind fun t357 => (if t357 = true then ((laws_toScanS.f k l1).bind fun t358 => ((laws_eqScanS.f k t343 t358).bind fun t361 => (if t361 = true then ((laws_markFrame.f k bt335.1 bt335.2.1 bt335.2.2.1 bt335.2.2.2.1 bt335.2.2.2.2 1).bind fun bt362 => ((laws_markScanS.f k t343 bt362.1).bind fun bt364 => (if bt364.1 < 0 then (laws_FnExactLeftOf.j0 k l1 t332 t346 true a0_0 a0_1 a0_2 a0_3 l0_4) else ((laws_eqIntSS.f k t346 t332).bind fun t366 => (laws_FnExactLeftOf.j0 k l1 t332 t346 (!t366) a0_0 a0_1 a0_2 a0_3 l0_4))))) else (some false)))) else (some false)))) else (some false)))))))) = some r := H
   have A14 := aM A140
   clear A140
   replace H := oB H
   obtain ⟨t329, A150, H⟩ := H
   replace H : ((spec_LeftOf.f k t322 t323 t324 t325 t326 t329).bind fun t332 => ((laws_toFrame.f k a0_0 a0_1 a0_2 a0_3 l0_4).bind fun bt335 => ((laws_toScanS.f k l1).bind fun t343 => ((impl_LeftOf.f k bt335.1 bt335.2.1 bt335.2.2.1 bt335.2.2.2.1 bt335.2.2.2.2 t343).bind fun t346 => ((laws_eqIntSS.f k t346 t332).bind fun t349 => (if t349 = true then ((laws_toFrame.f k a0_0 a0_1 a0_2 a0_3 l0_4).bind fun bt350 => ((laws_eqFrame.f k bt335.1 bt335.2.1 bt335.2.2.1 bt335.2.2.2.1 bt335.2.2.2.2 bt350.1 bt350.2.1 bt350.2.2.1 bt350.2.2.2.1 bt350.2.2.2.2).bind fun t357 => (if t357 = true then ((laws_toScanS.f k l1).bind fun t358 => ((laws_eqScanS.f k t343 t358).bind fun t361 => (if t361 = true then ((laws_markFrame.f k bt335.1 bt335.2.1 bt335.2.2.1 bt335.2.2.2.1 bt335.2.2.2.2 1).bind fun bt362 => ((laws_markScanS.f k t343 bt362.1).bind fun bt364 => (if bt364.1 < 0 then (laws_FnExactLeftOf.j0 k l1 t332 t346 true a0_0 a0_1 a0_2 a0_3 l0_4) else ((laws_eqIntSS.f k t346 t332).bind fun t366 => (laws_FnExactLeftOf.j0 k l1 t332 t346 (!t366) a0_0 a0_1 a0_2 a0_3 l0_4))))) else (some false)))) else (some false)))) else (some false))))))) = some r := H
   have A15 := aM A150
   clear A150
   replace H := oB H
   obtain ⟨t332, A160, H⟩ := H
   replace H : ((laws_toFrame.f k a0_0 a0_1 a0_2 a0_3 l0_4).bind fun bt335 => ((laws_toScanS.f k l1).bind fun t343 => ((impl_LeftOf.f k bt335.1 bt335.2.1 bt335.2.2.1 bt335.2.2.2.1 bt335.2.2.2.2 t343).bind fun t346 => ((laws_eqIntSS.f k t346 t332).bind fun t349 => (if t349 = true then ((laws_toFrame.f k a0_0 a0_1 a0_2 a0_3 l0_4).bind fun bt350 => ((laws_eqFrame.f k bt335.1 bt335.2.1 bt335.2.2.1 bt335.2.2.2.1 bt335.2.2.2.2 bt350.1 bt350.2.1 bt350.2.2.1 bt350.2.2.2.1 bt350.2.2.2.2).bind fun t357 => (if t357 = true then ((laws_toScanS.f k l1).bind fun t358 => ((laws_eqScanS.f k t343 t358).bind fun t361 => (if t361 = true then ((laws_markFrame.f k bt335.1 bt335.2.1 bt335.2.2.1 bt335.2.2.2.1 bt335.2.2.2.2 1).bind fun bt362 => ((laws_markScanS.f k t343 bt362.1).bind fun bt364 => (if bt364.1 < 0 then (laws_FnExactLeftOf.j0 k l1 t332 t346 true a0_0 a0_1 a0_2 a0_3 l0_4) else ((laws_eqIntSS.f k t346 t332).bind fun t366 => (laws_FnExactLeftOf.j0 k l1 t332 t346 (!t366) a0_0 a0_1 a0_2 a0_3 l0_4))))) else (some false)))) else (some false)))) else (some false)))))) = some r := H
   have A16 := aM A160
   clear A160
   replace H := oB H
   obtain ⟨⟨t335, t336, t337, t338, t339⟩, A170, H⟩ := H
   replace H : ((laws_toScanS.f k l1).bind fun t343 => ((impl_LeftOf.f k t335 t336 t337 t338 t339 t343).bind fun t346 => ((laws_eqIntSS.f k t346 t332).bind fun t349 => (if t349 = true then ((laws_toFrame.f k a0_0 a0_1 a0_2 a0_3 l0_4).bind fun bt350 => ((laws_eqFrame.f k t335 t336 t337 t338 t339 bt350.1 bt350.2.1 bt350.2.2.1 bt350.2.2.2.1 bt350.2.2.2.2).bind fun t357 => (if t357 = true then ((laws_toScanS.f k l1).bind fun t358 => ((laws_eqScanS.f k t343 t358).bind fun t361 => (if t361 = true then ((laws_markFrame.f k t335 t336 t337 t338 t339 1).bind fun bt362 => ((laws_markScanS.f k t343 bt362.1).bind fun bt364 => (if bt364.1 < 0 then (laws_FnExactLeftOf.j0 k l1 t332 t346 true a0_0 a0_1 a0_2 a0_3 l0_4) else ((laws_eqIntSS.f k t346 t332).bind fun t366 => (laws_FnExactLeftOf.j0 k l1 t332 t346 (!t366) a0_0 a0_1 a0_2 a0_3 l0_4))))) else (some false)))) else (some false)))) else (some false))))) = some r := H
   have A17 := aM A170
   clear A170
   replace H := oB H
   obtain ⟨t343, A180, H⟩ := H
   replace H : ((impl_LeftOf.f k t335 t336 t337 t338 t339 t343).bind fun t346 => ((laws_eqIntSS.f k t346 t332).bind fun t349 => (if t349 = true then ((laws_toFrame.f k a0_0 a0_1 a0_2 a0_3 l0_4).bind fun bt350 => ((laws_eqFrame.f k t335 t336 t337 t338 t339 bt350.1 bt350.2.1 bt350.2.2.1 bt350.2.2.2.1 bt350.2.2.2.2).bind fun t357 => (if t357 = true then ((laws_toScanS.f k l1).bind fun t358 => ((laws_eqScanS.f k t343 t358).bind fun t361 => (if t361 = true then ((laws_markFrame.f k t335 t336 t337 t338 t339 1).bind fun bt362 => ((laws_markScanS.f k t343 bt362.1).bind fun bt364 => (if bt364.1 < 0 then (laws_FnExactLeftOf.j0 k l1 t332 t346 true a0_0 a0_1 a0_2 a0_3 l0_4) else ((laws_eqIntSS.f k t346 t332).bind fun t366 => (laws_FnExactLeftOf.j0 k l1 t332 t346 (!t366) a0_0 a0_1 a0_2 a0_3 l0_4))))) else (some false)))) else (some false)))) else (some false)))) = some r := H
   have A18 := aM A180
   clear A180
   replace H := oB H
   obtain ⟨t346, A190, H⟩ := H
   replace H : ((laws_eqIntSS.f k t346 t332).bind fun t349 => (if t349 = true then ((laws_toFrame.f k a0_0 a0_1 a0_2 a0_3 l0_4).bind fun bt350 => ((laws_eqFrame.f k t335 t336 t337 t338 t339 bt350.1 bt350.2.1 bt350.2.2.1 bt350.2.2.2.1 bt350.2.2.2.2).bind fun t357 => (if t357 = true then ((laws_toScanS.f k l1).bind fun t358 => ((laws_eqScanS.f k t343 t358).bind fun t361 => (if t361 = true then ((laws_markFrame.f k t335 t336 t337 t338 t339 1).bind fun bt362 => ((laws_markScanS.f k t343 bt362.1).bind fun bt364 => (if bt364.1 < 0 then (laws_FnExactLeftOf.j0 k l1 t332 t346 true a0_0 a0_1 a0_2 a0_3 l0_4) else ((laws_eqIntSS.f k t346 t332).bind fun t366 => (laws_FnExactLeftOf.j0 k l1 t332 t346 (!t366) a0_0 a0_1 a0_2 a0_3 l0_4))))) else (some false)))) else (some false)))) else (some false))) = some r := H
   have A19 := aM A190
   clear A190
   replace H := oB H
   obtain ⟨t349, A200, H⟩ := H
   replace H : (if t349 = true then ((laws_toFrame.f k a0_0 a0_1 a0_2 a0_3 l0_4).bind fun bt350 => ((laws_eqFrame.f k t335 t336 t337 t338 t339 bt350.1 bt350.2.1 bt350.2.2.1 bt350.2.2.2.1 bt350.2.2.2.2).bind fun t357 => (if t357 = true then ((laws_toScanS.f k l1).bind fun t358 => ((laws_eqScanS.f k t343 t358).bind fun t361 => (if t361 = true then ((laws_markFrame.f k t335 t336 t337 t338 t339 1).bind fun bt362 => ((laws_markScanS.f k t343 bt362.1).bind fun bt364 => (if bt364.1 < 0 then (laws_FnExactLeftOf.j0 k l1 t332 t346 true a0_0 a0_1 a0_2 a0_3 l0_4) else ((laws_eqIntSS.f k t346 t332).bind fun t366 => (laws_FnExactLeftOf.j0 k l1 t332 t346 (!t366) a0_0 a0_1 a0_2 a0_3 l0_4))))) else (some false)))) else (some false)))) else (some false)) = some r := H
   have A20 := aM A200
   clear A200
   by_cases c21 : t349 = true
   ·subst c21
    have H1 : ((laws_toFrame.f k a0_0 a0_1 a0_2 a0_3 l0_4).bind fun bt350 => ((laws_eqFrame.f k t335 t336 t337 t338 t339 bt350.1 bt350.2.1 bt350.2.2.1 bt350.2.2.2.1 bt350.2.2.2.2).bind fun t357 => (if t357 = true then ((laws_toScanS.f k l1).bind fun t358 => ((laws_eqScanS.f k t343 t358).bind fun t361 => (if t361 = true then ((laws_markFrame.f k t335 t336 t337 t338 t339 1).bind fun bt362 => ((laws_markScanS.f k t343 bt362.1).bind fun bt364 => (if bt364.1 < 0 then (laws_FnExactLeftOf.j0 k l1 t332 t346 true a0_0 a0_1 a0_2 a0_3 l0_4) else ((laws_eqIntSS.f k t346 t332).bind fun t366 => (laws_FnExactLeftOf.j0 k l1 t332 t346 (!t366) a0_0 a0_1 a0_2 a0_3 l0_4))))) else (some false)))) else (some false)))) = some r := by rw [if_pos rfl] at H; exact H
    clear H
    have H := H1
    clear H1
    replace H := oB H
    obtain ⟨⟨t350, t351, t352, t353, t354⟩, A220, H⟩ := H
    replace H : ((laws_eqFrame.f k t335 t336 t337 t338 t339 t350 t351 t352 t353 t354).bind fun t357 => (if t357 = true then ((laws_toScanS.f k l1).bind fun t358 => ((laws_eqScanS.f k t343 t358).bind fun t361 => (if t361 = true then ((laws_markFrame.f k t335 t336 t337 t338 t339 1).bind fun bt362 => ((laws_markScanS.f k t343 bt362.1).bind fun bt364 => (if bt364.1 < 0 then (laws_FnExactLeftOf.j0 k l1 t332 t346 true a0_0 a0_1 a0_2 a0_3 l0_4) else ((laws_eqIntSS.f k t346 t332).bind fun t366 => (laws_FnExactLeftOf.j0 k l1 t332 t346 (!t366) a0_0 a0_1 a0_2 a0_3 l0_4))))) else (some false)))) else (some false))) = some r := H
    have A22 := aM A220
    clear A220
    replace H := oB H
    obtain ⟨t357, A230, H⟩ := H
    replace H : (if t357 = true then ((laws_toScanS.f k l1).bind fun t358 => ((laws_eqScanS.f k t343 t358).bind fun t361 => (if t361 = true then ((laws_markFrame.f k t335 t336 t337 t338 t339 1).bind fun bt362 => ((laws_markScanS.f k t343 bt362.1).bind fun bt364 => (if bt364.1 < 0 then (laws_FnExactLeftOf.j0 k l1 t332 t346 true a0_0 a0_1 a0_2 a0_3 l0_4) else ((laws_eqIntSS.f k t346 t332).bind fun t366 => (laws_FnExactLeftOf.j0 k l1 t332 t346 (!t366) a0_0 a0_1 a0_2 a0_3 l0_4))))) else (some false)))) else (some false)) = some r := H
    have A23 := aM A230
    clear A230
    by_cases c24 : t357 = true
    ·subst c24
     have H1 : ((laws_toScanS.f k l1).bind fun t358 => ((laws_eqScanS.f k t343 t358).bind fun t361 => (if t361 = true then ((laws_markFrame.f k t335 t336 t337 t338 t339 1).bind fun bt362 => ((laws_markScanS.f k t343 bt362.1).bind fun bt364 => (if bt364.1 < 0 then (laws_FnExactLeftOf.j0 k l1 t332 t346 true a0_0 a0_1 a0_2 a0_3 l0_4) else ((laws_eqIntSS.f k t346 t332).bind fun t366 => (laws_FnExactLeftOf.j0 k l1 t332 t346 (!t366) a0_0 a0_1 a0_2 a0_3 l0_4))))) else (some false)))) = some r := by rw [if_pos rfl] at H; exact H
     clear H
     have H := H1
     clear H1
     replace H := oB H
     obtain ⟨t358, A250, H⟩ := H
     replace H : ((laws_eqScanS.f k t343 t358).bind fun t361 => (if t361 = true then ((laws_markFrame.f k t335 t336 t337 t338 t339 1).bind fun bt362 => ((laws_markScanS.f k t343 bt362.1).bind fun bt364 => (if bt364.1 < 0 then (laws_FnExactLeftOf.j0 k l1 t332 t346 true a0_0 a0_1 a0_2 a0_3 l0_4) else ((laws_eqIntSS.f k t346 t332).bind fun t366 => (laws_FnExactLeftOf.j0 k l1 t332 t346 (!t366) a0_0 a0_1 a0_2 a0_3 l0_4))))) else (some false))) = some r := H
     have A25 := aM A250
     clear A250
     replace H := oB H
     obtain ⟨t361, A260, H⟩ := H
     replace H : (if t361 = true then ((laws_markFrame.f k t335 t336 t337 t338 t339 1).bind fun bt362 => ((laws_markScanS.f k t343 bt362.1).bind fun bt364 => (if bt364.1 < 0 then (laws_FnExactLeftOf.j0 k l1 t332 t346 true a0_0 a0_1 a0_2 a0_3 l0_4) else ((laws_eqIntSS.f k t346 t332).bind fun t366 => (laws_FnExactLeftOf.j0 k l1 t332 t346 (!t366) a0_0 a0_1 a0_2 a0_3 l0_4))))) else (some false)) = some r := H
     have A26 := aM A260
     clear A260
     by_cases c27 : t361 = true
     ·subst c27
      have H1 : ((laws_markFrame.f k t335 t336 t337 t338 t339 1).bind fun bt362 => ((laws_markScanS.f k t343 bt362.1).bind fun bt364 => (if bt364.1 < 0 then (laws_FnExactLeftOf.j0 k l1 t332 t346 true a0_0 a0_1 a0_2 a0_3 l0_4) else ((laws_eqIntSS.f k t346 t332).bind fun t366 => (laws_FnExactLeftOf.j0 k l1 t332 t346 (!t366) a0_0 a0_1 a0_2 a0_3 l0_4))))) = some r := by rw [if_pos rfl] at H; exact H
      clear H
      have H := H1
      clear H1
      replace H := oB H
      obtain ⟨⟨t362, t363⟩, A280, H⟩ := H
      replace H : ((laws_markScanS.f k t343 t362).bind fun bt364 => (if bt364.1 < 0 then (laws_FnExactLeftOf.j0 k l1 t332 t346 true a0_0 a0_1 a0_2 a0_3 l0_4) else ((laws_eqIntSS.f k t346 t332).bind fun t366 => (laws_FnExactLeftOf.j0 k l1 t332 t346 (!t366) a0_0 a0_1 a0_2 a0_3 l0_4)))) = some r := H
      have A28 := aM A280
      clear A280
      replace H := oB H
      obtain ⟨⟨t364, t365⟩, A290, H⟩ := H
      replace H : (if t364 < 0 then (laws_FnExactLeftOf.j0 k l1 t332 t346 true a0_0 a0_1 a0_2 a0_3 l0_4) else ((laws_eqIntSS.f k t346 t332).bind fun t366 => (laws_FnExactLeftOf.j0 k l1 t332 t346 (!t366) a0_0 a0_1 a0_2 a0_3 l0_4))) = some r := H
      have A29 := aM A290
      clear A290
      have HC30 := aM H
      clear H
      go_enter Try.func13, Try.ntmps13
      try go_wp2_with (first | ((with_reducible refine gate_dst (N := 2) rfl ?_); refine box_event ?hg (N := 2) ?hd (cs := #[.int .i64 a0_0, .int .i64 a0_1, .int .i64 a0_2, .int .i64 a0_3, .slice A0_4 l0_4.length c0_4]) (t := 55) ?hr ?_; (case hd => rfl); (case hg => rfl); (case hr => first | (go_simp; done) | (go_simp; rfl)); intro gb319 hg w31 hbox hb; have n0_ := aM (below_step (by repeat (first | (with_reducible first | exact HB.out | apply bA | apply bN | apply b1) | exact HB.out)) hb); have n1_ := aM (hbox); have n2_ := aM ((by rw [hg]; exact (below_size (by repeat (first | (with_reducible first | exact HB.out | apply bA | apply bN | apply b1) | exact HB.out))) : w.heap.size ≤ gb319)); have n3_ := aM ((by rw [hg]; exact (below_size (by repeat (first | (with_reducible first | exact HB.out | apply bA | apply bN | apply b1) | exact HB.out))) : w.heap.size ≤ gb319)); clear HB; have HB := n0_; have BK319 := n1_; have GW319 := n2_; have GE319 := n3_; clear n0_ n1_ n2_ n3_; clear hb hbox hg; have hcz32_0 : w31.cell? ⟨gb319, 0, none⟩ = some (.int .i64 a0_0) := (kC BK319.out 0).trans rfl; have hcz32_1 : w31.cell? ⟨gb319, 1, none⟩ = some (.int .i64 a0_1) := (kC BK319.out 1).trans rfl; have hcz32_2 : w31.cell? ⟨gb319, 2, none⟩ = some (.int .i64 a0_2) := (kC BK319.out 2).trans rfl; have hcz32_3 : w31.cell? ⟨gb319, 3, none⟩ = some (.int .i64 a0_3) := (kC BK319.out 3).trans rfl; have hcz32_4 : w31.cell? ⟨gb319, 4, none⟩ = some (.slice A0_4 l0_4.length c0_4) := (kC BK319.out 4).trans rfl; have hfz32_0 := blk_frozen BK319.out 0; have hfz32_1 := blk_frozen BK319.out 1; have hfz32_2 := blk_frozen BK319.out 2; have hfz32_3 := blk_frozen BK319.out 3; have hfz32_4 := blk_frozen BK319.out 4) | ((with_reducible refine gate_callee (f := 39) rfl ?_); refine goesL_ (some 16) rfl rfl Try.func39 (by kernel_rfl) rfl #[.agg #[.int .i64 a0_0, .int .i64 a0_1, .int .i64 a0_2, .int .i64 a0_3, .slice A0_4 l0_4.length c0_4], .int .i64 1048576] rfl (by (try simp only [List.map_toArray, List.map_cons, List.map_nil]); first | done | rfl | (simp only [List.length_drop, List.length_take]; rfl)) ?_; (with_reducible refine (laws_szFrame.calls a0_0 a0_1 a0_2 a0_3 _ _ l0_4 1048576 t320 _ ?side1 ?side2 A3.out).mono ?_); (case side1 => repeat (first | exact (Kd.C_below HR0_4.out HB.out) | (with_reducible first | refine Kd.C_alloc ?_ _ | refine Kd.C_drewN ?_ _ | refine Kd.C_drew ?_))); (case side2 => exact HC0_4.out); rintro e w33 ⟨rfl, hb⟩; refine ⟨_, rfl, ?_⟩; have n0_ := aM (blk_below (g := gb319) (o := .cells #[.int .i64 a0_0, .int .i64 a0_1, .int .i64 a0_2, .int .i64 a0_3, .slice A0_4 l0_4.length c0_4] 55 (0, 0)) (by (with_reducible repeat (first | apply kN | apply kD | apply kA)); exact BK319.out) hb); have n1_ := aM (below_step (by repeat (first | (with_reducible first | exact HB.out | apply bA | apply bN | apply b1 | refine bS ?_ GE319.out) | exact HB.out)) hb); clear BK319; clear HB; have BK319 := n0_; have HB := n1_; clear n0_ n1_; (try clear hb); (try clear hb2); (try clear hk); (try clear hi)) | ((with_reducible refine gate_callee (f := 58) rfl ?_); refine goesL_ (some 21) rfl rfl Try.func58 (by kernel_rfl) rfl #[.slice A1 l1.length c1, .int .i64 t320] rfl (by (try simp only [List.map_toArray, List.map_cons, List.map_nil]); first | done | rfl | (simp only [List.length_drop, List.length_take]; rfl)) ?_; (with_reducible refine (laws_szScanS.calls k _ _ l1 t320 t321 _ ?side1 ?side2 A8.out).mono ?_); (case side1 => repeat (first | exact (Kd.C_below HR1.out HB.out) | (with_reducible first | refine Kd.C_alloc ?_ _ | refine Kd.C_drewN ?_ _ | refine Kd.C_drew ?_))); (case side2 => exact HC1.out); rintro e w34 ⟨rfl, hb⟩; refine ⟨_, rfl, ?_⟩; have n0_ := aM (blk_below (g := gb319) (o := .cells #[.int .i64 a0_0, .int .i64 a0_1, .int .i64 a0_2, .int .i64 a0_3, .slice A0_4 l0_4.length c0_4] 55 (0, 0)) (by (with_reducible repeat (first | apply kN | apply kD | apply kA)); exact BK319.out) hb); have n1_ := aM (below_step (by repeat (first | (with_reducible first | exact HB.out | apply bA | apply bN | apply b1 | refine bS ?_ GE319.out) | exact HB.out)) hb); clear BK319; clear HB; have BK319 := n0_; have HB := n1_; clear n0_ n1_; (try clear hb); (try clear hb2); (try clear hk); (try clear hi); have hcz35_0 : w34.cell? ⟨gb319, 0, none⟩ = some (.int .i64 a0_0) := (kC BK319.out 0).trans rfl; have hcz35_1 : w34.cell? ⟨gb319, 1, none⟩ = some (.int .i64 a0_1) := (kC BK319.out 1).trans rfl; have hcz35_2 : w34.cell? ⟨gb319, 2, none⟩ = some (.int .i64 a0_2) := (kC BK319.out 2).trans rfl; have hcz35_3 : w34.cell? ⟨gb319, 3, none⟩ = some (.int .i64 a0_3) := (kC BK319.out 3).trans rfl; have hcz35_4 : w34.cell? ⟨gb319, 4, none⟩ = some (.slice A0_4 l0_4.length c0_4) := (kC BK319.out 4).trans rfl; have hfz35_0 := blk_frozen BK319.out 0; have hfz35_1 := blk_frozen BK319.out 1; have hfz35_2 := blk_frozen BK319.out 2; have hfz35_3 := blk_frozen BK319.out 3; have hfz35_4 := blk_frozen BK319.out 4) | ((with_reducible refine gate_callee (f := 41) rfl ?_); refine goesL_ (some 25) rfl rfl Try.func41 (by kernel_rfl) rfl #[.agg #[.int .i64 a0_0, .int .i64 a0_1, .int .i64 a0_2, .int .i64 a0_3, .slice A0_4 l0_4.length c0_4]] rfl (by (try simp only [List.map_toArray, List.map_cons, List.map_nil]); first | done | rfl | (simp only [List.length_drop, List.length_take]; rfl)) ?_; (with_reducible refine (laws_toFrame.calls k a0_0 a0_1 a0_2 a0_3 _ _ l0_4 t322 t323 t324 t325 t326 _ ?side1 ?side2 A14.out).mono ?_); (case side1 => repeat (first | exact (Kd.C_below HR0_4.out HB.out) | (with_reducible first | refine Kd.C_alloc ?_ _ | refine Kd.C_drewN ?_ _ | refine Kd.C_drew ?_))); (case side2 => exact HC0_4.out); rintro e w36 ⟨v327, rfl, ho0, hb⟩; refine ⟨_, rfl, ?_⟩; have n0_ := aM (Kd.R_lower ho0 (below_size (by repeat (first | (with_reducible first | exact HB.out | apply bA | apply bN | apply b1 | refine bS ?_ GE319.out) | exact HB.out)))); have n1_ := aM (blk_below (g := gb319) (o := .cells #[.int .i64 a0_0, .int .i64 a0_1, .int .i64 a0_2, .int .i64 a0_3, .slice A0_4 l0_4.length c0_4] 55 (0, 0)) (by (with_reducible repeat (first | apply kN | apply kD | apply kA)); exact BK319.out) hb); have n2_ := aM (below_step (by repeat (first | (with_reducible first | exact HB.out | apply bA | apply bN | apply b1 | refine bS ?_ GE319.out) | exact HB.out)) hb); clear BK319; clear HB; have HO328 := n0_; have BK319 := n1_; have HB := n2_; clear n0_ n1_ n2_; (try clear hb); (try clear hb2); (try clear hk); (try clear hi); (try clear ho0)) | ((with_reducible refine gate_callee (f := 60) rfl ?_); refine goesL_ (some 27) rfl rfl Try.func60 (by kernel_rfl) rfl #[.slice A1 l1.length c1] rfl (by (try simp only [List.map_toArray, List.map_cons, List.map_nil]); first | done | rfl | (simp only [List.length_drop, List.length_take]; rfl)) ?_; (with_reducible refine (laws_toScanS.calls k _ _ l1 t329 _ ?side1 ?side2 A15.out).mono ?_); (case side1 => repeat (first | exact (Kd.C_below HR1.out HB.out) | (with_reducible first | refine Kd.C_alloc ?_ _ | refine Kd.C_drewN ?_ _ | refine Kd.C_drew ?_))); (case side2 => exact HC1.out); rintro e w37 ⟨v330, rfl, ho0, hb⟩; refine ⟨_, rfl, ?_⟩; have n0_ := aM (Kd.R_below (by (with_reducible repeat (first | apply Kd.R_alloc | apply Kd.R_drewN | apply Kd.R_drew)); exact HO328.out) hb); have n1_ := aM (Kd.S_lower ho0 (below_size (by repeat (first | (with_reducible first | exact HB.out | apply bA | apply bN | apply b1 | refine bS ?_ GE319.out) | exact HB.out)))); have n2_ := aM (blk_below (g := gb319) (o := .cells #[.int .i64 a0_0, .int .i64 a0_1, .int .i64 a0_2, .int .i64 a0_3, .slice A0_4 l0_4.length c0_4] 55 (0, 0)) (by (with_reducible repeat (first | apply kN | apply kD | apply kA)); exact BK319.out) hb); have n3_ := aM (below_step (by repeat (first | (with_reducible first | exact HB.out | apply bA | apply bN | apply b1 | refine bS ?_ GE319.out) | exact HB.out)) hb); clear HO328; clear BK319; clear HB; have HO328 := n0_; have HO331 := n1_; have BK319 := n2_; have HB := n3_; clear n0_ n1_ n2_ n3_; (try clear hb); (try clear hb2); (try clear hk); (try clear hi); (try clear ho0); obtain ⟨Ao38, co38, eo38⟩ := Kd.R_slice HO328.out; subst eo38; obtain ⟨Ao39, co39, eo39⟩ := Kd.S_slice HO331.out; subst eo39) | ((with_reducible refine gate_callee (f := 36) rfl ?_); refine goesL_ (some 28) rfl rfl Try.func36 (by kernel_rfl) rfl #[.agg #[.int .i64 t322, .int .i64 t323, .int .i64 t324, .int .i64 t325, .slice Ao38 t326.length co38], .slice Ao39 t329.length co39] rfl (by (try simp only [List.map_toArray, List.map_cons, List.map_nil]); first | done | rfl | (simp only [List.length_drop, List.length_take]; rfl)) ?_; (with_reducible refine (spec_LeftOf.calls k t322 t323 t324 t325 _ _ t326 _ _ t329 t332 _ ?side1 ?side2 ?side3 ?side4 A16.out).mono ?_); (case side1 => repeat (first | exact (Kd.R_reads' HO328.out).2.2 | (with_reducible first | refine Kd.C_alloc ?_ _ | refine Kd.C_drewN ?_ _ | refine Kd.C_drew ?_))); (case side2 => exact (Kd.R_reads' HO328.out).2.1); (case side3 => repeat (first | exact (Kd.S_reads' HO331.out).2.2 | (with_reducible first | refine Kd.C_alloc ?_ _ | refine Kd.C_drewN ?_ _ | refine Kd.C_drew ?_))); (case side4 => exact (Kd.S_reads' HO331.out).2.1); rintro e w40 ⟨v333, rfl, ho0, hb⟩; refine ⟨_, rfl, ?_⟩; obtain ⟨N_HO334, hN_HO334⟩ := sepN ho0; have n0_ := aM (Kd.R_below (by (with_reducible repeat (first | apply Kd.R_alloc | apply Kd.R_drewN | apply Kd.R_drew)); exact HO328.out) hb); have n1_ := aM (sepO (by (with_reducible repeat (first | apply Kd.S_alloc | apply Kd.S_drewN | apply Kd.S_drew)); exact HO331.out) hN_HO334 hb); have n2_ := aM (Kd.S_lower (sepW ho0 hN_HO334) (below_size (by repeat (first | (with_reducible first | exact HB.out | apply bA | apply bN | apply b1 | refine bS ?_ GE319.out) | exact HB.out)))); have n3_ := aM (blk_below (g := gb319) (o := .cells #[.int .i64 a0_0, .int .i64 a0_1, .int .i64 a0_2, .int .i64 a0_3, .slice A0_4 l0_4.length c0_4] 55 (0, 0)) (by (with_reducible repeat (first | apply kN | apply kD | apply kA)); exact BK319.out) hb); have n4_ := aM (below_step (by repeat (first | (with_reducible first | exact HB.out | apply bA | apply bN | apply b1 | refine bS ?_ GE319.out) | exact HB.out)) hb); clear HO328; clear HO331; clear BK319; clear HB; have HO328 := n0_; have HO331 := n1_; have HO334 := n2_; have BK319 := n3_; have HB := n4_; clear n0_ n1_ n2_ n3_ n4_; (try clear hb); (try clear hb2); (try clear hk); (try clear hi); (try clear ho0); have hcz41_0 : w40.cell? ⟨gb319, 0, none⟩ = some (.int .i64 a0_0) := (kC BK319.out 0).trans rfl; have hcz41_1 : w40.cell? ⟨gb319, 1, none⟩ = some (.int .i64 a0_1) := (kC BK319.out 1).trans rfl; have hcz41_2 : w40.cell? ⟨gb319, 2, none⟩ = some (.int .i64 a0_2) := (kC BK319.out 2).trans rfl; have hcz41_3 : w40.cell? ⟨gb319, 3, none⟩ = some (.int .i64 a0_3) := (kC BK319.out 3).trans rfl; have hcz41_4 : w40.cell? ⟨gb319, 4, none⟩ = some (.slice A0_4 l0_4.length c0_4) := (kC BK319.out 4).trans rfl; have hfz41_0 := blk_frozen BK319.out 0; have hfz41_1 := blk_frozen BK319.out 1; have hfz41_2 := blk_frozen BK319.out 2; have hfz41_3 := blk_frozen BK319.out 3; have hfz41_4 := blk_frozen BK319.out 4) | ((with_reducible refine gate_callee (f := 41) rfl ?_); refine goesL_ (some 30) rfl rfl Try.func41 (by kernel_rfl) rfl #[.agg #[.int .i64 a0_0, .int .i64 a0_1, .int .i64 a0_2, .int .i64 a0_3, .slice A0_4 l0_4.length c0_4]] rfl (by (try simp only [List.map_toArray, List.map_cons, List.map_nil]); first | done | rfl | (simp only [List.length_drop, List.length_take]; rfl)) ?_; (with_reducible refine (laws_toFrame.calls k a0_0 a0_1 a0_2 a0_3 _ _ l0_4 t335 t336 t337 t338 t339 _ ?side1 ?side2 A17.out).mono ?_); (case side1 => repeat (first | exact (Kd.C_below HR0_4.out HB.out) | (with_reducible first | refine Kd.C_alloc ?_ _ | refine Kd.C_drewN ?_ _ | refine Kd.C_drew ?_))); (case side2 => exact HC0_4.out); rintro e w42 ⟨v340, rfl, ho0, hb⟩; refine ⟨_, rfl, ?_⟩; have n0_ := aM (Kd.R_elder' (by (with_reducible repeat (first | apply Kd.R_alloc | apply Kd.R_drewN | apply Kd.R_drew)); exact HO328.out) (Kd.R_base ho0) hb); have n1_ := aM (Kd.S_below (by (with_reducible repeat (first | apply Kd.S_alloc | apply Kd.S_drewN | apply Kd.S_drew)); exact HO331.out) hb); have n2_ := aM (Kd.S_below (by (with_reducible repeat (first | apply Kd.S_alloc | apply Kd.S_drewN | apply Kd.S_drew)); exact HO334.out) hb); have n3_ := aM (Kd.R_lower (Kd.R_new' ho0 (Kd.R_lt (by (with_reducible repeat (first | apply Kd.R_alloc | apply Kd.R_drewN | apply Kd.R_drew)); exact HO328.out))) (below_size (by repeat (first | (with_reducible first | exact HB.out | apply bA | apply bN | apply b1 | refine bS ?_ GE319.out) | exact HB.out)))); have n4_ := aM (blk_below (g := gb319) (o := .cells #[.int .i64 a0_0, .int .i64 a0_1, .int .i64 a0_2, .int .i64 a0_3, .slice A0_4 l0_4.length c0_4] 55 (0, 0)) (by (with_reducible repeat (first | apply kN | apply kD | apply kA)); exact BK319.out) hb); have n5_ := aM (below_step (by repeat (first | (with_reducible first | exact HB.out | apply bA | apply bN | apply b1 | refine bS ?_ GE319.out) | exact HB.out)) hb); clear HO328; clear HO331; clear HO334; clear BK319; clear HB; have HO328 := n0_; have HO331 := n1_; have HO334 := n2_; have HO341 := n3_; have BK319 := n4_; have HB := n5_; clear n0_ n1_ n2_ n3_ n4_ n5_; (try clear hb); (try clear hb2); (try clear hk); (try clear hi); (try clear ho0)) | ((with_reducible refine gate_dst (N := 7) rfl ?_); refine box_event ?hg (N := 7) ?hd (cs := #[.int .i64 0, .int .i64 0, .int .i64 0, .int .i64 0, .slice none 0 0]) (t := 45) ?hr ?_; (case hd => rfl); (case hg => rfl); (case hr => first | (go_simp; done) | (go_simp; rfl)); intro gb342 hg w43 hbox hb; have n0_ := aM (Kd.R_below (by (with_reducible repeat (first | apply Kd.R_alloc | apply Kd.R_drewN | apply Kd.R_drew)); exact HO328.out) hb); have n1_ := aM (Kd.S_below (by (with_reducible repeat (first | apply Kd.S_alloc | apply Kd.S_drewN | apply Kd.S_drew)); exact HO331.out) hb); have n2_ := aM (Kd.S_below (by (with_reducible repeat (first | apply Kd.S_alloc | apply Kd.S_drewN | apply Kd.S_drew)); exact HO334.out) hb); have n3_ := aM (Kd.R_below (by (with_reducible repeat (first | apply Kd.R_alloc | apply Kd.R_drewN | apply Kd.R_drew)); exact HO341.out) hb); have n4_ := aM (blk_below (g := gb319) (o := .cells #[.int .i64 a0_0, .int .i64 a0_1, .int .i64 a0_2, .int .i64 a0_3, .slice A0_4 l0_4.length c0_4] 55 (0, 0)) (by (with_reducible repeat (first | apply kN | apply kD | apply kA)); exact BK319.out) hb); have n5_ := aM (below_step (by repeat (first | (with_reducible first | exact HB.out | apply bA | apply bN | apply b1 | refine bS ?_ GE319.out) | exact HB.out)) hb); have n6_ := aM (hbox); have n7_ := aM ((by rw [hg]; exact (below_size (by repeat (first | (with_reducible first | exact HB.out | apply bA | apply bN | apply b1 | refine bS ?_ GE319.out) | exact HB.out))) : w.heap.size ≤ gb342)); have n8_ := aM ((by rw [hg]; exact (below_size (by repeat (first | (with_reducible first | exact HB.out | apply bA | apply bN | apply b1 | refine bS ?_ GE319.out) | exact HB.out))) : w.heap.size ≤ gb342)); have n9_ := aM ((by rw [hg]; exact Nat.ne_of_lt (blk_lt (g := gb319) (o := .cells #[.int .i64 a0_0, .int .i64 a0_1, .int .i64 a0_2, .int .i64 a0_3, .slice A0_4 l0_4.length c0_4] 55 (0, 0)) (by (with_reducible repeat (first | apply kN | apply kD | apply kA)); exact BK319.out)) : gb319 ≠ gb342)); have n10_ := aM ((by rw [hg]; exact Nat.ne_of_gt (blk_lt (g := gb319) (o := .cells #[.int .i64 a0_0, .int .i64 a0_1, .int .i64 a0_2, .int .i64 a0_3, .slice A0_4 l0_4.length c0_4] 55 (0, 0)) (by (with_reducible repeat (first | apply kN | apply kD | apply kA)); exact BK319.out)) : gb342 ≠ gb319)); clear HO328; clear HO331; clear HO334; clear HO341; clear BK319; clear HB; have HO328 := n0_; have HO331 := n1_; have HO334 := n2_; have HO341 := n3_; have BK319 := n4_; have HB := n5_; have BK342 := n6_; have GW342 := n7_; have GE342 := n8_; have NB319_342 := n9_; have NB342_319 := n10_; clear n0_ n1_ n2_ n3_ n4_ n5_ n6_ n7_ n8_ n9_ n10_; clear hb hbox hg; have hnb44 := NB342_319.out; have hnc44 := NB319_342.out; have hcz45_0 : w43.cell? ⟨gb342, 0, none⟩ = some (.int .i64 0) := (kC BK342.out 0).trans rfl; have hcz45_1 : w43.cell? ⟨gb342, 1, none⟩ = some (.int .i64 0) := (kC BK342.out 1).trans rfl; have hcz45_2 : w43.cell? ⟨gb342, 2, none⟩ = some (.int .i64 0) := (kC BK342.out 2).trans rfl; have hcz45_3 : w43.cell? ⟨gb342, 3, none⟩ = some (.int .i64 0) := (kC BK342.out 3).trans rfl; have hcz45_4 : w43.cell? ⟨gb342, 4, none⟩ = some (.slice none 0 0) := (kC BK342.out 4).trans rfl; have hfz45_0 := blk_frozen BK342.out 0; have hfz45_1 := blk_frozen BK342.out 1; have hfz45_2 := blk_frozen BK342.out 2; have hfz45_3 := blk_frozen BK342.out 3; have hfz45_4 := blk_frozen BK342.out 4; obtain ⟨Ao46, co46, eo46⟩ := Kd.R_slice HO341.out; subst eo46) | ((with_reducible refine gate_callee (f := 60) rfl ?_); refine goesL_ (some 32) rfl rfl Try.func60 (by kernel_rfl) rfl #[.slice A1 l1.length c1] rfl (by (try simp only [List.map_toArray, List.map_cons, List.map_nil]); first | done | rfl | (simp only [List.length_drop, List.length_take]; rfl)) ?_; (with_reducible refine (laws_toScanS.calls k _ _ l1 t343 _ ?side1 ?side2 A18.out).mono ?_); (case side1 => exact Kd.C_below HR1.out (by repeat (first | (with_reducible first | exact HB.out | apply bA | apply bN | apply b1 | refine bS ?_ GE319.out | refine bS ?_ GE342.out) | exact HB.out))); (case side2 => exact HC1.out); rintro e w47 ⟨v344, rfl, ho0, hb⟩; refine ⟨_, rfl, ?_⟩; obtain ⟨N_HO345, hN_HO345⟩ := sepN ho0; have n0_ := aM (Kd.R_below (by (with_reducible repeat (first | apply Kd.R_alloc | apply Kd.R_drewN | apply Kd.R_drew)); exact (Kd.R_mono (Kd.R_far (p := ⟨gb342, 4, none⟩) (Kd.R_far (p := ⟨gb342, 3, none⟩) (Kd.R_far (p := ⟨gb342, 2, none⟩) (Kd.R_far (p := ⟨gb342, 1, none⟩) (Kd.R_far (p := ⟨gb342, 0, none⟩) (Kd.R_types HO328.out BK342.out (by decide)) (fun _ hk => hk.2) (.int .i64 t335)) (fun _ hk => hk.2) (.int .i64 t336)) (fun _ hk => hk.2) (.int .i64 t337)) (fun _ hk => hk.2) (.int .i64 t338)) (fun _ hk => hk.2) (.slice Ao46 t339.length co46)) (fun _ h_ => h_.1))) hb); have n1_ := aM (sepO (by (with_reducible repeat (first | apply Kd.S_alloc | apply Kd.S_drewN | apply Kd.S_drew)); exact (Kd.S_mono (Kd.S_far (p := ⟨gb342, 4, none⟩) (Kd.S_far (p := ⟨gb342, 3, none⟩) (Kd.S_far (p := ⟨gb342, 2, none⟩) (Kd.S_far (p := ⟨gb342, 1, none⟩) (Kd.S_far (p := ⟨gb342, 0, none⟩) (Kd.S_types HO331.out BK342.out (by decide)) (fun _ hk => hk.2) (.int .i64 t335)) (fun _ hk => hk.2) (.int .i64 t336)) (fun _ hk => hk.2) (.int .i64 t337)) (fun _ hk => hk.2) (.int .i64 t338)) (fun _ hk => hk.2) (.slice Ao46 t339.length co46)) (fun _ h_ => h_.1))) hN_HO345 hb); have n2_ := aM (sepO (by (with_reducible repeat (first | apply Kd.S_alloc | apply Kd.S_drewN | apply Kd.S_drew)); exact (Kd.S_mono (Kd.S_far (p := ⟨gb342, 4, none⟩) (Kd.S_far (p := ⟨gb342, 3, none⟩) (Kd.S_far (p := ⟨gb342, 2, none⟩) (Kd.S_far (p := ⟨gb342, 1, none⟩) (Kd.S_far (p := ⟨gb342, 0, none⟩) (Kd.S_types HO334.out BK342.out (by decide)) (fun _ hk => hk.2) (.int .i64 t335)) (fun _ hk => hk.2) (.int .i64 t336)) (fun _ hk => hk.2) (.int .i64 t337)) (fun _ hk => hk.2) (.int .i64 t338)) (fun _ hk => hk.2) (.slice Ao46 t339.length co46)) (fun _ h_ => h_.1))) hN_HO345 hb); have n3_ := aM (Kd.R_below (by (with_reducible repeat (first | apply Kd.R_alloc | apply Kd.R_drewN | apply Kd.R_drew)); exact (Kd.R_mono (Kd.R_far (p := ⟨gb342, 4, none⟩) (Kd.R_far (p := ⟨gb342, 3, none⟩) (Kd.R_far (p := ⟨gb342, 2, none⟩) (Kd.R_far (p := ⟨gb342, 1, none⟩) (Kd.R_far (p := ⟨gb342, 0, none⟩) (Kd.R_types HO341.out BK342.out (by decide)) (fun _ hk => hk.2) (.int .i64 t335)) (fun _ hk => hk.2) (.int .i64 t336)) (fun _ hk => hk.2) (.int .i64 t337)) (fun _ hk => hk.2) (.int .i64 t338)) (fun _ hk => hk.2) (.slice Ao46 t339.length co46)) (fun _ h_ => h_.1))) hb); have n4_ := aM (Kd.S_lower (sepW (sepW ho0 hN_HO345) hN_HO345) (below_size (by repeat (first | (with_reducible first | exact HB.out | apply bA | apply bN | apply b1 | refine bS ?_ GE319.out | refine bS ?_ GE342.out) | exact HB.out)))); have n5_ := aM (blk_below (g := gb319) (o := .cells #[.int .i64 a0_0, .int .i64 a0_1, .int .i64 a0_2, .int .i64 a0_3, .slice A0_4 l0_4.length c0_4] 55 (0, 0)) (by (with_reducible repeat (first | apply kN | apply kD | apply kA)); refine blk_far ?_ NB319_342.out _; (with_reducible repeat (first | apply kN | apply kD | apply kA)); refine blk_far ?_ NB319_342.out _; (with_reducible repeat (first | apply kN | apply kD | apply kA)); refine blk_far ?_ NB319_342.out _; (with_reducible repeat (first | apply kN | apply kD | apply kA)); refine blk_far ?_ NB319_342.out _; (with_reducible repeat (first | apply kN | apply kD | apply kA)); refine blk_far ?_ NB319_342.out _; (with_reducible repeat (first | apply kN | apply kD | apply kA)); exact BK319.out) hb); have n6_ := aM (blk_below (g := gb342) (o := .cells #[.int .i64 t335, .int .i64 t336, .int .i64 t337, .int .i64 t338, .slice Ao46 t339.length co46] 45 (0, 0)) (by (with_reducible repeat (first | apply kN | apply kD | apply kA)); refine blk_put (cs := #[.int .i64 t335, .int .i64 t336, .int .i64 t337, .int .i64 t338, .slice none 0 0]) ?_ 4 _ rfl; (with_reducible repeat (first | apply kN | apply kD | apply kA)); refine blk_put (cs := #[.int .i64 t335, .int .i64 t336, .int .i64 t337, .int .i64 0, .slice none 0 0]) ?_ 3 _ rfl; (with_reducible repeat (first | apply kN | apply kD | apply kA)); refine blk_put (cs := #[.int .i64 t335, .int .i64 t336, .int .i64 0, .int .i64 0, .slice none 0 0]) ?_ 2 _ rfl; (with_reducible repeat (first | apply kN | apply kD | apply kA)); refine blk_put (cs := #[.int .i64 t335, .int .i64 0, .int .i64 0, .int .i64 0, .slice none 0 0]) ?_ 1 _ rfl; (with_reducible repeat (first | apply kN | apply kD | apply kA)); refine blk_put (cs := #[.int .i64 0, .int .i64 0, .int .i64 0, .int .i64 0, .slice none 0 0]) ?_ 0 _ rfl; (with_reducible repeat (first | apply kN | apply kD | apply kA)); exact BK342.out) hb); have n7_ := aM (below_step (by repeat (first | (with_reducible first | exact HB.out | apply bA | apply bN | apply b1 | refine bS ?_ GE319.out | refine bS ?_ GE342.out) | exact HB.out)) hb); clear HO328; clear HO331; clear HO334; clear HO341; clear BK319; clear BK342; clear HB; have HO328 := n0_; have HO331 := n1_; have HO334 := n2_; have HO341 := n3_; have HO345 := n4_; have BK319 := n5_; have BK342 := n6_; have HB := n7_; clear n0_ n1_ n2_ n3_ n4_ n5_ n6_ n7_; (try clear hb); (try clear hb2); (try clear hk); (try clear hi); (try clear ho0); have hcz48_0 : w47.cell? ⟨gb342, 0, none⟩ = some (.int .i64 t335) := (kC BK342.out 0).trans rfl; have hcz48_1 : w47.cell? ⟨gb342, 1, none⟩ = some (.int .i64 t336) := (kC BK342.out 1).trans rfl; have hcz48_2 : w47.cell? ⟨gb342, 2, none⟩ = some (.int .i64 t337) := (kC BK342.out 2).trans rfl; have hcz48_3 : w47.cell? ⟨gb342, 3, none⟩ = some (.int .i64 t338) := (kC BK342.out 3).trans rfl; have hcz48_4 : w47.cell? ⟨gb342, 4, none⟩ = some (.slice Ao46 t339.length co46) := (kC BK342.out 4).trans rfl; have hfz48_0 := blk_frozen BK342.out 0; have hfz48_1 := blk_frozen BK342.out 1; have hfz48_2 := blk_frozen BK342.out 2; have hfz48_3 := blk_frozen BK342.out 3; have hfz48_4 := blk_frozen BK342.out 4; obtain ⟨Ao49, co49, eo49⟩ := Kd.S_slice HO345.out; subst eo49) | ((with_reducible refine gate_callee (f := 62) rfl ?_); refine goesL_ (some 35) rfl rfl Try.func62 (by kernel_rfl) rfl #[.agg #[.int .i64 t335, .int .i64 t336, .int .i64 t337, .int .i64 t338, .slice Ao46 t339.length co46], .slice Ao49 t343.length co49] rfl (by (try simp only [List.map_toArray, List.map_cons, List.map_nil]); first | done | rfl | (simp only [List.length_drop, List.length_take]; rfl)) ?_; (with_reducible refine (impl_LeftOf.calls k t335 t336 t337 t338 _ _ t339 _ _ t343 t346 _ ?side1 ?side2 ?side3 ?side4 A19.out).mono ?_); (case side1 => repeat (first | exact (Kd.R_reads' HO341.out).2.2 | (with_reducible first | refine Kd.C_alloc ?_ _ | refine Kd.C_drewN ?_ _ | refine Kd.C_drew ?_))); (case side2 => exact (Kd.R_reads' HO341.out).2.1); (case side3 => repeat (first | exact (Kd.S_reads' HO345.out).2.2 | (with_reducible first | refine Kd.C_alloc ?_ _ | refine Kd.C_drewN ?_ _ | refine Kd.C_drew ?_))); (case side4 => exact (Kd.S_reads' HO345.out).2.1); rintro e w50 ⟨v347, rfl, ho0, hb⟩; refine ⟨_, rfl, ?_⟩; obtain ⟨N_HO348, hN_HO348⟩ := sepN ho0; have n0_ := aM (Kd.R_below (by (with_reducible repeat (first | apply Kd.R_alloc | apply Kd.R_drewN | apply Kd.R_drew)); exact HO328.out) hb); have n1_ := aM (sepO (by (with_reducible repeat (first | apply Kd.S_alloc | apply Kd.S_drewN | apply Kd.S_drew)); exact HO331.out) hN_HO348 hb); have n2_ := aM (sepO (by (with_reducible repeat (first | apply Kd.S_alloc | apply Kd.S_drewN | apply Kd.S_drew)); exact HO334.out) hN_HO348 hb); have n3_ := aM (Kd.R_below (by (with_reducible repeat (first | apply Kd.R_alloc | apply Kd.R_drewN | apply Kd.R_drew)); exact HO341.out) hb); have n4_ := aM (sepO (by (with_reducible repeat (first | apply Kd.S_alloc | apply Kd.S_drewN | apply Kd.S_drew)); exact HO345.out) hN_HO348 hb); have n5_ := aM (Kd.S_lower (sepW (sepW (sepW ho0 hN_HO348) hN_HO348) hN_HO348) (below_size (by repeat (first | (with_reducible first | exact HB.out | apply bA | apply bN | apply b1 | refine bS ?_ GE319.out | refine bS ?_ GE342.out) | exact HB.out)))); have n6_ := aM (blk_below (g := gb319) (o := .cells #[.int .i64 a0_0, .int .i64 a0_1, .int .i64 a0_2, .int .i64 a0_3, .slice A0_4 l0_4.length c0_4] 55 (0, 0)) (by (with_reducible repeat (first | apply kN | apply kD | apply kA)); exact BK319.out) hb); have n7_ := aM (blk_below (g := gb342) (o := .cells #[.int .i64 t335, .int .i64 t336, .int .i64 t337, .int .i64 t338, .slice Ao46 t339.length co46] 45 (0, 0)) (by (with_reducible repeat (first | apply kN | apply kD | apply kA)); exact BK342.out) hb); have n8_ := aM (below_step (by repeat (first | (with_reducible first | exact HB.out | apply bA | apply bN | apply b1 | refine bS ?_ GE319.out | refine bS ?_ GE342.out) | exact HB.out)) hb); clear HO328; clear HO331; clear HO334; clear HO341; clear HO345; clear BK319; clear BK342; clear HB; have HO328 := n0_; have HO331 := n1_; have HO334 := n2_; have HO341 := n3_; have HO345 := n4_; have HO348 := n5_; have BK319 := n6_; have BK342 := n7_; have HB := n8_; clear n0_ n1_ n2_ n3_ n4_ n5_ n6_ n7_ n8_; (try clear hb); (try clear hb2); (try clear hk); (try clear hi); (try clear ho0); obtain ⟨Ao51, co51, eo51⟩ := Kd.S_slice HO348.out; subst eo51; obtain ⟨Ao52, co52, eo52⟩ := Kd.S_slice HO334.out; subst eo52) | ((with_reducible refine gate_callee (f := 63) rfl ?_); refine goesL_ (some 38) rfl rfl Try.func63 (by kernel_rfl) rfl #[.slice Ao51 t346.length co51, .slice Ao52 t332.length co52] rfl (by (try simp only [List.map_toArray, List.map_cons, List.map_nil]); first | done | rfl | (simp only [List.length_drop, List.length_take]; rfl)) ?_; (with_reducible refine (laws_eqIntSS.calls k _ _ t346 _ _ t332 true _ ?side1 ?side2 ?side3 ?side4 A20.out).mono ?_); (case side1 => repeat (first | exact (Kd.S_reads' HO348.out).2.2 | (with_reducible first | refine Kd.C_alloc ?_ _ | refine Kd.C_drewN ?_ _ | refine Kd.C_drew ?_))); (case side2 => exact (Kd.S_reads' HO348.out).2.1); (case side3 => repeat (first | exact (Kd.S_reads' HO334.out).2.2 | (with_reducible first | refine Kd.C_alloc ?_ _ | refine Kd.C_drewN ?_ _ | refine Kd.C_drew ?_))); (case side4 => exact (Kd.S_reads' HO334.out).2.1); rintro e w' ⟨rfl, ⟨nd, rfl⟩⟩; refine ⟨_, rfl, ?_⟩))
      (try (rw [drewN_self w50]; generalize hq_ : World.drewN w50 _ = w50; have n0_ : Aside0 (Kd.R k42 42 w50 w.heap.size (fun k_ => some k_ ≠ (.slice Ao46 t339.length co46 : Value).ownBlock) (.slice Ao38 t326.length co38) t326) := ⟨by rw [← hq_]; exact (by (with_reducible repeat (first | apply Kd.R_alloc | apply Kd.R_drewN | apply Kd.R_drew)); exact Kd.R_mono HO328.out (fun _ hk => by first | exact hk.2 | simp only [ne_eq, hk, not_false_eq_true, and_self]))⟩; have n1_ : Aside0 (Kd.S k28 28 w50 w.heap.size (fun k_ => k_ < N_HO334 ∧ k_ < N_HO345 ∧ k_ < N_HO348) (.slice Ao39 t329.length co39) t329) := ⟨by rw [← hq_]; exact (by (with_reducible repeat (first | apply Kd.S_alloc | apply Kd.S_drewN | apply Kd.S_drew)); exact Kd.S_mono HO331.out (fun _ hk => by simp only [ne_eq, hk, not_false_eq_true, and_self]))⟩; have n2_ : Aside0 (Kd.S (Kd.slice 3 (Kd.int .i64)) 22 w50 w.heap.size (fun k_ => N_HO334 ≤ k_ ∧ k_ < N_HO345 ∧ k_ < N_HO348) (.slice Ao52 t332.length co52) t332) := ⟨by rw [← hq_]; exact (by (with_reducible repeat (first | apply Kd.S_alloc | apply Kd.S_drewN | apply Kd.S_drew)); exact Kd.S_mono HO334.out (fun _ hk => by simp only [ne_eq, hk, not_false_eq_true, and_self]))⟩; have n3_ : Aside0 (Kd.R k42 42 w50 w.heap.size (fun k_ => some k_ ≠ (.slice Ao38 t326.length co38 : Value).ownBlock) (.slice Ao46 t339.length co46) t339) := ⟨by rw [← hq_]; exact (by (with_reducible repeat (first | apply Kd.R_alloc | apply Kd.R_drewN | apply Kd.R_drew)); exact Kd.R_mono HO341.out (fun _ hk => by first | exact hk.2 | simp only [ne_eq, hk, not_false_eq_true, and_self]))⟩; have n4_ : Aside0 (Kd.S k28 28 w50 w.heap.size (fun k_ => N_HO345 ≤ k_ ∧ N_HO345 ≤ k_ ∧ k_ < N_HO348) (.slice Ao49 t343.length co49) t343) := ⟨by rw [← hq_]; exact (by (with_reducible repeat (first | apply Kd.S_alloc | apply Kd.S_drewN | apply Kd.S_drew)); exact Kd.S_mono HO345.out (fun _ hk => by simp only [ne_eq, hk, not_false_eq_true, and_self]))⟩; have n5_ : Aside0 (Kd.S (Kd.slice 3 (Kd.int .i64)) 22 w50 w.heap.size (fun k_ => N_HO348 ≤ k_ ∧ N_HO348 ≤ k_ ∧ N_HO348 ≤ k_) (.slice Ao51 t346.length co51) t346) := ⟨by rw [← hq_]; exact (by (with_reducible repeat (first | apply Kd.S_alloc | apply Kd.S_drewN | apply Kd.S_drew)); exact Kd.S_mono HO348.out (fun _ hk => by simp only [ne_eq, hk, not_false_eq_true, and_self]))⟩; have n6_ : Aside0 (w50.heap[gb319]? = some (.cells #[.int .i64 a0_0, .int .i64 a0_1, .int .i64 a0_2, .int .i64 a0_3, .slice A0_4 l0_4.length c0_4] 55 (0, 0))) := ⟨by rw [← hq_]; exact (by (with_reducible repeat (first | apply kN | apply kD | apply kA)); exact BK319.out)⟩; have n7_ : Aside0 (w50.heap[gb342]? = some (.cells #[.int .i64 t335, .int .i64 t336, .int .i64 t337, .int .i64 t338, .slice Ao46 t339.length co46] 45 (0, 0))) := ⟨by rw [← hq_]; exact (by (with_reducible repeat (first | apply kN | apply kD | apply kA)); exact BK342.out)⟩; have n8_ : Aside0 (Below w.heap.size w w50) := ⟨by rw [← hq_]; exact (by repeat (first | (with_reducible first | exact HB.out | apply bA | apply bN | apply b1 | refine bS ?_ GE319.out | refine bS ?_ GE342.out) | exact HB.out))⟩; clear HO328 HO331 HO334 HO341 HO345 HO348 BK319 BK342 HB hq_; have HO328 := n0_; have HO331 := n1_; have HO334 := n2_; have HO341 := n3_; have HO345 := n4_; have HO348 := n5_; have BK319 := n6_; have BK342 := n7_; have HB := n8_; clear n0_ n1_ n2_ n3_ n4_ n5_ n6_ n7_ n8_))
      have n0_ := aM (Kd.R_drew HO328.out)
      have n1_ := aM (Kd.S_drew HO331.out)
      have n2_ := aM (Kd.S_drew HO334.out)
      have n3_ := aM (Kd.R_drew HO341.out)
      have n4_ := aM (Kd.S_drew HO345.out)
      have n5_ := aM (Kd.S_drew HO348.out)
      have n6_ := aM (kD BK319.out)
      have n7_ := aM (kD BK342.out)
      have n8_ := aM (b1 HB.out)
      clear HO328
      clear HO331
      clear HO334
      clear HO341
      clear HO345
      clear HO348
      clear BK319
      clear BK342
      clear HB
      have HO328 := n0_
      have HO331 := n1_
      have HO334 := n2_
      have HO341 := n3_
      have HO345 := n4_
      have HO348 := n5_
      have BK319 := n6_
      have BK342 := n7_
      have HB := n8_
      clear n0_ n1_ n2_ n3_ n4_ n5_ n6_ n7_ n8_
      refine start_ (n := 5) (S := fun w' => w'.cell? ⟨gb342, 0, none⟩ = some (.int .i64 t335) ∧ w'.cell? ⟨gb342, 1, none⟩ = some (.int .i64 t336) ∧ w'.cell? ⟨gb342, 2, none⟩ = some (.int .i64 t337) ∧ w'.cell? ⟨gb342, 3, none⟩ = some (.int .i64 t338) ∧ w'.cell? ⟨gb342, 4, none⟩ = some (.slice Ao46 t339.length co46) ∧ w'.cell? ⟨gb319, 0, none⟩ = some (.int .i64 a0_0) ∧ w'.cell? ⟨gb319, 1, none⟩ = some (.int .i64 a0_1) ∧ w'.cell? ⟨gb319, 2, none⟩ = some (.int .i64 a0_2) ∧ w'.cell? ⟨gb319, 3, none⟩ = some (.int .i64 a0_3) ∧ w'.cell? ⟨gb319, 4, none⟩ = some (.slice A0_4 l0_4.length c0_4)) (ds := []) #[false, false, false, false, false] (by kernel_rfl) rfl rfl ⟨(kC BK342.out 0).trans rfl, (kC BK342.out 1).trans rfl, (kC BK342.out 2).trans rfl, (kC BK342.out 3).trans rfl, (kC BK342.out 4).trans rfl, (kC BK319.out 0).trans rfl, (kC BK319.out 1).trans rfl, (kC BK319.out 2).trans rfl, (kC BK319.out 3).trans rfl, (kC BK319.out 4).trans rfl⟩ (fun hHeld => ?_)
      generalize w50.drew = w53 at HO328 HO331 HO334 HO341 HO345 HO348 BK319 BK342 HB hHeld ⊢
      refine take_ (i := 0) (N := some 40) (v := ?_) (a' := ?_) #[true, false, false, false, false] rfl rfl (by kernel_rfl) (fun _ _ _ h => h) (Or.inl ⟨by rfl, ?_⟩) hHeld ?_ ?_
      rotate_left
      ·rintro w' ⟨s0, s1, s2, s3, s4, s5, s6, s7, s8, s9⟩
       go_simp
       with_reducible rfl
      rotate_left
      ·simp only [Act.put, List.setIfInBounds_toArray, List.set_cons_zero, List.set_cons_succ, i64_w, i32_w]
       rfl
      refine take_ (i := 1) (N := some 41) (v := ?_) (a' := ?_) #[true, true, false, false, false] rfl rfl (by kernel_rfl) (fun _ _ _ h => h) (Or.inl ⟨by rfl, ?_⟩) hHeld ?_ ?_
      rotate_left
      ·rintro w' ⟨s0, s1, s2, s3, s4, s5, s6, s7, s8, s9⟩
       go_simp
       with_reducible rfl
      rotate_left
      ·simp only [Act.put, List.setIfInBounds_toArray, List.set_cons_zero, List.set_cons_succ, i64_w, i32_w]
       rfl
      refine one_ (i := 2) (N := some 42) #[true, true, true, false, false] rfl rfl (by kernel_rfl) (by decide) (fun K hK => ?_)
      refine goes_ Try.func41 (by kernel_rfl) rfl #[.agg #[.int .i64 a0_0, .int .i64 a0_1, .int .i64 a0_2, .int .i64 a0_3, .slice A0_4 l0_4.length c0_4]] (by rfl) rfl rfl (by (try simp only [List.map_toArray, List.map_cons, List.map_nil]); first | done | rfl | (simp only [List.length_drop, List.length_take]; rfl)) ?_
      with_reducible refine (laws_toFrame.calls k a0_0 a0_1 a0_2 a0_3 _ _ l0_4 t350 t351 t352 t353 t354 _ ?side1 ?side2 A22.out).mono ?_
      (case side1 => repeat (first | exact (Kd.C_below HR0_4.out HB.out) | (with_reducible first | refine Kd.C_alloc ?_ _ | refine Kd.C_drewN ?_ _ | refine Kd.C_drew ?_)))
      (case side2 => exact HC0_4.out)
      rintro e w54 ⟨v355, rfl, ho0, hb⟩
      refine ⟨_, rfl, ?_⟩
      have n0_ := aM (Kd.R_elder' (by (with_reducible repeat (first | apply Kd.R_alloc | apply Kd.R_drewN | apply Kd.R_drew)); exact HO328.out) (Kd.R_base ho0) hb)
      have n1_ := aM (Kd.S_below (by (with_reducible repeat (first | apply Kd.S_alloc | apply Kd.S_drewN | apply Kd.S_drew)); exact HO331.out) hb)
      have n2_ := aM (Kd.S_below (by (with_reducible repeat (first | apply Kd.S_alloc | apply Kd.S_drewN | apply Kd.S_drew)); exact HO334.out) hb)
      have n3_ := aM (Kd.R_elder' (by (with_reducible repeat (first | apply Kd.R_alloc | apply Kd.R_drewN | apply Kd.R_drew)); exact HO341.out) (Kd.R_base ho0) hb)
      have n4_ := aM (Kd.S_below (by (with_reducible repeat (first | apply Kd.S_alloc | apply Kd.S_drewN | apply Kd.S_drew)); exact HO345.out) hb)
      have n5_ := aM (Kd.S_below (by (with_reducible repeat (first | apply Kd.S_alloc | apply Kd.S_drewN | apply Kd.S_drew)); exact HO348.out) hb)
      have n6_ := aM (Kd.R_lower (Kd.R_new' (Kd.R_new' ho0 (Kd.R_lt (by (with_reducible repeat (first | apply Kd.R_alloc | apply Kd.R_drewN | apply Kd.R_drew)); exact HO328.out))) (Kd.R_lt (by (with_reducible repeat (first | apply Kd.R_alloc | apply Kd.R_drewN | apply Kd.R_drew)); exact HO341.out))) (below_size (by repeat (first | (with_reducible first | exact HB.out | apply bA | apply bN | apply b1 | refine bS ?_ GE319.out | refine bS ?_ GE342.out) | exact HB.out))))
      have n7_ := aM (blk_below (g := gb319) (o := .cells #[.int .i64 a0_0, .int .i64 a0_1, .int .i64 a0_2, .int .i64 a0_3, .slice A0_4 l0_4.length c0_4] 55 (0, 0)) (by (with_reducible repeat (first | apply kN | apply kD | apply kA)); exact BK319.out) hb)
      have n8_ := aM (blk_below (g := gb342) (o := .cells #[.int .i64 t335, .int .i64 t336, .int .i64 t337, .int .i64 t338, .slice Ao46 t339.length co46] 45 (0, 0)) (by (with_reducible repeat (first | apply kN | apply kD | apply kA)); exact BK342.out) hb)
      have n9_ := aM (below_step (by repeat (first | (with_reducible first | exact HB.out | apply bA | apply bN | apply b1 | refine bS ?_ GE319.out | refine bS ?_ GE342.out) | exact HB.out)) hb)
      clear HO328
      clear HO331
      clear HO334
      clear HO341
      clear HO345
      clear HO348
      clear BK319
      clear BK342
      clear HB
      have HO328 := n0_
      have HO331 := n1_
      have HO334 := n2_
      have HO341 := n3_
      have HO345 := n4_
      have HO348 := n5_
      have HO356 := n6_
      have BK319 := n7_
      have BK342 := n8_
      have HB := n9_
      clear n0_ n1_ n2_ n3_ n4_ n5_ n6_ n7_ n8_ n9_
      (try clear hb)
      (try clear hb2)
      (try clear hk)
      (try clear hi)
      (try clear ho0)
      obtain ⟨Ao55, co55, eo55⟩ := Kd.R_slice HO356.out
      (first | subst eo55 | (injection eo55 with f1_ f2_ f3_; have f4_ := f1_.symm; have f5_ := f3_.symm; clear f1_ f2_ f3_; subst f4_; subst f5_))
      refine hK.out _ _ ⟨(kC BK342.out 0).trans rfl, (kC BK342.out 1).trans rfl, (kC BK342.out 2).trans rfl, (kC BK342.out 3).trans rfl, (kC BK342.out 4).trans rfl, (kC BK319.out 0).trans rfl, (kC BK319.out 1).trans rfl, (kC BK319.out 2).trans rfl, (kC BK319.out 3).trans rfl, (kC BK319.out 4).trans rfl⟩ (fun hHeld => ?_)
      clear hK K
      refine norm_ (a' := ?_) ?_ ?_
      rotate_left
      ·show Act.put _ (some 42) _ = _
       simp only [Act.put, List.setIfInBounds_toArray, List.set_cons_zero, List.set_cons_succ, i64_w, i32_w]
       rfl
      refine one_ (i := 3) (N := some 43) #[true, true, true, true, false] rfl rfl (by kernel_rfl) (by decide) (fun K hK => ?_)
      refine goes_ Try.func43 (by kernel_rfl) rfl #[.agg #[.int .i64 t335, .int .i64 t336, .int .i64 t337, .int .i64 t338, .slice Ao46 t339.length co46], .agg #[.int .i64 t350, .int .i64 t351, .int .i64 t352, .int .i64 t353, .slice Ao55 t354.length co55]] (by rfl) rfl rfl (by (try simp only [List.map_toArray, List.map_cons, List.map_nil]); first | done | rfl | (simp only [List.length_drop, List.length_take]; rfl)) ?_
      with_reducible refine (laws_eqFrame.calls k t335 t336 t337 t338 _ _ t339 t350 t351 t352 t353 _ _ t354 true _ ?side1 ?side2 ?side3 ?side4 A23.out).mono ?_
      (case side1 => repeat (first | exact (Kd.R_reads' HO341.out).2.2 | (with_reducible first | refine Kd.C_alloc ?_ _ | refine Kd.C_drewN ?_ _ | refine Kd.C_drew ?_)))
      (case side2 => exact (Kd.R_reads' HO341.out).2.1)
      (case side3 => repeat (first | exact (Kd.R_reads' HO356.out).2.2 | (with_reducible first | refine Kd.C_alloc ?_ _ | refine Kd.C_drewN ?_ _ | refine Kd.C_drew ?_)))
      (case side4 => exact (Kd.R_reads' HO356.out).2.1)
      rintro e w56 ⟨rfl, hb⟩
      refine ⟨_, rfl, ?_⟩
      have n0_ := aM (Kd.R_below (by (with_reducible repeat (first | apply Kd.R_alloc | apply Kd.R_drewN | apply Kd.R_drew)); exact HO328.out) hb)
      have n1_ := aM (Kd.S_below (by (with_reducible repeat (first | apply Kd.S_alloc | apply Kd.S_drewN | apply Kd.S_drew)); exact HO331.out) hb)
      have n2_ := aM (Kd.S_below (by (with_reducible repeat (first | apply Kd.S_alloc | apply Kd.S_drewN | apply Kd.S_drew)); exact HO334.out) hb)
      have n3_ := aM (Kd.R_below (by (with_reducible repeat (first | apply Kd.R_alloc | apply Kd.R_drewN | apply Kd.R_drew)); exact HO341.out) hb)
      have n4_ := aM (Kd.S_below (by (with_reducible repeat (first | apply Kd.S_alloc | apply Kd.S_drewN | apply Kd.S_drew)); exact HO345.out) hb)
      have n5_ := aM (Kd.S_below (by (with_reducible repeat (first | apply Kd.S_alloc | apply Kd.S_drewN | apply Kd.S_drew)); exact HO348.out) hb)
      have n6_ := aM (Kd.R_below (by (with_reducible repeat (first | apply Kd.R_alloc | apply Kd.R_drewN | apply Kd.R_drew)); exact HO356.out) hb)
      have n7_ := aM (blk_below (g := gb319) (o := .cells #[.int .i64 a0_0, .int .i64 a0_1, .int .i64 a0_2, .int .i64 a0_3, .slice A0_4 l0_4.length c0_4] 55 (0, 0)) (by (with_reducible repeat (first | apply kN | apply kD | apply kA)); exact BK319.out) hb)
      have n8_ := aM (blk_below (g := gb342) (o := .cells #[.int .i64 t335, .int .i64 t336, .int .i64 t337, .int .i64 t338, .slice Ao46 t339.length co46] 45 (0, 0)) (by (with_reducible repeat (first | apply kN | apply kD | apply kA)); exact BK342.out) hb)
      have n9_ := aM (below_step (by repeat (first | (with_reducible first | exact HB.out | apply bA | apply bN | apply b1 | refine bS ?_ GE319.out | refine bS ?_ GE342.out) | exact HB.out)) hb)
      clear HO328
      clear HO331
      clear HO334
      clear HO341
      clear HO345
      clear HO348
      clear HO356
      clear BK319
      clear BK342
      clear HB
      have HO328 := n0_
      have HO331 := n1_
      have HO334 := n2_
      have HO341 := n3_
      have HO345 := n4_
      have HO348 := n5_
      have HO356 := n6_
      have BK319 := n7_
      have BK342 := n8_
      have HB := n9_
      clear n0_ n1_ n2_ n3_ n4_ n5_ n6_ n7_ n8_ n9_
      (try clear hb)
      (try clear hb2)
      (try clear hk)
      (try clear hi)
      refine hK.out _ _ ⟨(kC BK342.out 0).trans rfl, (kC BK342.out 1).trans rfl, (kC BK342.out 2).trans rfl, (kC BK342.out 3).trans rfl, (kC BK342.out 4).trans rfl, (kC BK319.out 0).trans rfl, (kC BK319.out 1).trans rfl, (kC BK319.out 2).trans rfl, (kC BK319.out 3).trans rfl, (kC BK319.out 4).trans rfl⟩ (fun hHeld => ?_)
      clear hK K
      refine norm_ (a' := ?_) ?_ ?_
      rotate_left
      ·show Act.put _ (some 43) _ = _
       simp only [Act.put, List.setIfInBounds_toArray, List.set_cons_zero, List.set_cons_succ, i64_w, i32_w]
       rfl
      refine pure_ (i := 4) (N := some 44) (v := ?_) (a' := ?_) #[true, true, true, true, true] rfl rfl (by kernel_rfl) (fun _ _ _ h => h) (Or.inl ⟨by rfl, ?_⟩) ?_ ?_
      rotate_left
      ·intro w'
       go_simp
       with_reducible rfl
      rotate_left
      ·simp only [Act.put, List.setIfInBounds_toArray, List.set_cons_zero, List.set_cons_succ, i64_w, i32_w]
       rfl
      refine done_ (by kernel_rfl) ?_
      go_upto_region 21 with (first | ((with_reducible refine gate_callee (f := 60) rfl ?_); refine goesL_ (some 47) rfl rfl Try.func60 (by kernel_rfl) rfl #[.slice A1 l1.length c1] rfl (by (try simp only [List.map_toArray, List.map_cons, List.map_nil]); first | done | rfl | (simp only [List.length_drop, List.length_take]; rfl)) ?_; (with_reducible refine (laws_toScanS.calls k _ _ l1 t358 _ ?side1 ?side2 A25.out).mono ?_); (case side1 => repeat (first | exact (Kd.C_below HR1.out HB.out) | (with_reducible first | refine Kd.C_alloc ?_ _ | refine Kd.C_drewN ?_ _ | refine Kd.C_drew ?_))); (case side2 => exact HC1.out); rintro e w57 ⟨v359, rfl, ho0, hb⟩; refine ⟨_, rfl, ?_⟩; obtain ⟨N_HO360, hN_HO360⟩ := sepN ho0; have n0_ := aM (sepO (by (with_reducible repeat (first | apply Kd.S_alloc | apply Kd.S_drewN | apply Kd.S_drew)); exact HO334.out) hN_HO360 hb); have n1_ := aM (Kd.R_below (by (with_reducible repeat (first | apply Kd.R_alloc | apply Kd.R_drewN | apply Kd.R_drew)); exact HO341.out) hb); have n2_ := aM (sepO (by (with_reducible repeat (first | apply Kd.S_alloc | apply Kd.S_drewN | apply Kd.S_drew)); exact HO345.out) hN_HO360 hb); have n3_ := aM (sepO (by (with_reducible repeat (first | apply Kd.S_alloc | apply Kd.S_drewN | apply Kd.S_drew)); exact HO348.out) hN_HO360 hb); have n4_ := aM (Kd.S_lower (sepW (sepW (sepW ho0 hN_HO360) hN_HO360) hN_HO360) (below_size (by repeat (first | (with_reducible first | exact HB.out | apply bA | apply bN | apply b1 | refine bS ?_ GE319.out | refine bS ?_ GE342.out) | exact HB.out)))); have n5_ := aM (blk_below (g := gb319) (o := .cells #[.int .i64 a0_0, .int .i64 a0_1, .int .i64 a0_2, .int .i64 a0_3, .slice A0_4 l0_4.length c0_4] 55 (0, 0)) (by (with_reducible repeat (first | apply kN | apply kD | apply kA)); exact BK319.out) hb); have n6_ := aM (blk_below (g := gb342) (o := .cells #[.int .i64 t335, .int .i64 t336, .int .i64 t337, .int .i64 t338, .slice Ao46 t339.length co46] 45 (0, 0)) (by (with_reducible repeat (first | apply kN | apply kD | apply kA)); exact BK342.out) hb); have n7_ := aM (below_step (by repeat (first | (with_reducible first | exact HB.out | apply bA | apply bN | apply b1 | refine bS ?_ GE319.out | refine bS ?_ GE342.out) | exact HB.out)) hb); clear HO334; clear HO341; clear HO345; clear HO348; clear BK319; clear BK342; clear HB; have HO334 := n0_; have HO341 := n1_; have HO345 := n2_; have HO348 := n3_; have HO360 := n4_; have BK319 := n5_; have BK342 := n6_; have HB := n7_; clear n0_ n1_ n2_ n3_ n4_ n5_ n6_ n7_; (try clear hb); (try clear hb2); (try clear hk); (try clear hi); (try clear ho0); obtain ⟨Ao58, co58, eo58⟩ := Kd.S_slice HO360.out; subst eo58) | ((with_reducible refine gate_callee (f := 51) rfl ?_); refine goesL_ (some 48) rfl rfl Try.func51 (by kernel_rfl) rfl #[.slice Ao49 t343.length co49, .slice Ao58 t358.length co58] rfl (by (try simp only [List.map_toArray, List.map_cons, List.map_nil]); first | done | rfl | (simp only [List.length_drop, List.length_take]; rfl)) ?_; (with_reducible refine (laws_eqScanS.calls k _ _ t343 _ _ t358 true _ ?side1 ?side2 ?side3 ?side4 A26.out).mono ?_); (case side1 => repeat (first | exact (Kd.S_reads' HO345.out).2.2 | (with_reducible first | refine Kd.C_alloc ?_ _ | refine Kd.C_drewN ?_ _ | refine Kd.C_drew ?_))); (case side2 => exact (Kd.S_reads' HO345.out).2.1); (case side3 => repeat (first | exact (Kd.S_reads' HO360.out).2.2 | (with_reducible first | refine Kd.C_alloc ?_ _ | refine Kd.C_drewN ?_ _ | refine Kd.C_drew ?_))); (case side4 => exact (Kd.S_reads' HO360.out).2.1); rintro e w59 ⟨rfl, hb⟩; refine ⟨_, rfl, ?_⟩; have n0_ := aM (Kd.S_below (by (with_reducible repeat (first | apply Kd.S_alloc | apply Kd.S_drewN | apply Kd.S_drew)); exact HO334.out) hb); have n1_ := aM (Kd.R_below (by (with_reducible repeat (first | apply Kd.R_alloc | apply Kd.R_drewN | apply Kd.R_drew)); exact HO341.out) hb); have n2_ := aM (Kd.S_below (by (with_reducible repeat (first | apply Kd.S_alloc | apply Kd.S_drewN | apply Kd.S_drew)); exact HO345.out) hb); have n3_ := aM (Kd.S_below (by (with_reducible repeat (first | apply Kd.S_alloc | apply Kd.S_drewN | apply Kd.S_drew)); exact HO348.out) hb); have n4_ := aM (Kd.S_below (by (with_reducible repeat (first | apply Kd.S_alloc | apply Kd.S_drewN | apply Kd.S_drew)); exact HO360.out) hb); have n5_ := aM (blk_below (g := gb319) (o := .cells #[.int .i64 a0_0, .int .i64 a0_1, .int .i64 a0_2, .int .i64 a0_3, .slice A0_4 l0_4.length c0_4] 55 (0, 0)) (by (with_reducible repeat (first | apply kN | apply kD | apply kA)); exact BK319.out) hb); have n6_ := aM (blk_below (g := gb342) (o := .cells #[.int .i64 t335, .int .i64 t336, .int .i64 t337, .int .i64 t338, .slice Ao46 t339.length co46] 45 (0, 0)) (by (with_reducible repeat (first | apply kN | apply kD | apply kA)); exact BK342.out) hb); have n7_ := aM (below_step (by repeat (first | (with_reducible first | exact HB.out | apply bA | apply bN | apply b1 | refine bS ?_ GE319.out | refine bS ?_ GE342.out) | exact HB.out)) hb); clear HO334; clear HO341; clear HO345; clear HO348; clear HO360; clear BK319; clear BK342; clear HB; have HO334 := n0_; have HO341 := n1_; have HO345 := n2_; have HO348 := n3_; have HO360 := n4_; have BK319 := n5_; have BK342 := n6_; have HB := n7_; clear n0_ n1_ n2_ n3_ n4_ n5_ n6_ n7_; (try clear hb); (try clear hb2); (try clear hk); (try clear hi); have hcz60_0 : w59.cell? ⟨gb342, 0, none⟩ = some (.int .i64 t335) := (kC BK342.out 0).trans rfl; have hcz60_1 : w59.cell? ⟨gb342, 1, none⟩ = some (.int .i64 t336) := (kC BK342.out 1).trans rfl; have hcz60_2 : w59.cell? ⟨gb342, 2, none⟩ = some (.int .i64 t337) := (kC BK342.out 2).trans rfl; have hcz60_3 : w59.cell? ⟨gb342, 3, none⟩ = some (.int .i64 t338) := (kC BK342.out 3).trans rfl; have hcz60_4 : w59.cell? ⟨gb342, 4, none⟩ = some (.slice Ao46 t339.length co46) := (kC BK342.out 4).trans rfl; have hfz60_0 := blk_frozen BK342.out 0; have hfz60_1 := blk_frozen BK342.out 1; have hfz60_2 := blk_frozen BK342.out 2; have hfz60_3 := blk_frozen BK342.out 3; have hfz60_4 := blk_frozen BK342.out 4) | ((with_reducible refine gate_callee (f := 47) rfl ?_); refine goesL_ (some 52) rfl rfl Try.func47 (by kernel_rfl) rfl #[.agg #[.int .i64 t335, .int .i64 t336, .int .i64 t337, .int .i64 t338, .slice Ao46 t339.length co46], .int .i64 1] rfl (by (try simp only [List.map_toArray, List.map_cons, List.map_nil]); first | done | rfl | (simp only [List.length_drop, List.length_take]; rfl)) ?_; (with_reducible refine (laws_markFrame.calls k t335 t336 t337 t338 (fun k_ => some k_ = (.slice Ao46 t339.length co46 : Value).ownBlock) (.slice Ao46 t339.length co46) t339 1 t362 t363 w _ ?side1 ?side2 A28.out).mono ?_); (case side1 => repeat (first | (with_reducible first | exact HB.out | apply bA | apply bN | apply b1 | refine bS ?_ GE319.out | refine bS ?_ GE342.out) | exact HB.out)); (case side2 => exact Kd.R_tight rfl HO341.out); rintro e w61 ⟨rfl, hy0, hb, hkp⟩; refine ⟨_, rfl, ?_⟩; ((first | (with_reducible have hq_ := blk_kept (kN BK319.out _) hkp) | (with_reducible have hq_ := blk_kept BK319.out hkp)); have n0_ := aM (hq_ (fun hs_ => (fun e_ => (Kd.R_ne HO341.out BK319.out (by decide)) e_) hs_)); clear hq_); have n1_ := aM (Kd.S_mono (ok' := fun k_ => k_ < N_HO345 ∧ k_ < N_HO348) (Kd.S_keptB ((Kd.S_apart' HO334.out (Kd.R_typed HO341.out) (by decide))) hkp (fun k_ hk_ hs_ => by simp only [ne_eq, hs_, not_true_eq_false, and_false, false_and] at hk_)) (fun k_ hk_ => by simp only [ne_eq, hk_, not_false_eq_true, and_self])); have n2_ := aM (Kd.R_reok rfl hy0 (fun k_ e_ => HO341.out.1 k_ e_)); ((first | (with_reducible have hq_ := blk_kept (kN BK342.out _) hkp) | (with_reducible have hq_ := blk_kept BK342.out hkp)); have n3_ := aM (hq_ (fun hs_ => (fun e_ => (Kd.R_ne HO341.out BK342.out (by decide)) e_) hs_)); clear hq_); have n4_ := aM (Kd.S_mono (ok' := fun k_ => N_HO345 ≤ k_ ∧ k_ < N_HO348) (Kd.S_keptB ((Kd.S_apart' HO345.out (Kd.R_typed HO341.out) (by decide))) hkp (fun k_ hk_ hs_ => by simp only [ne_eq, hs_, not_true_eq_false, and_false, false_and] at hk_)) (fun k_ hk_ => by simp only [ne_eq, hk_, not_false_eq_true, and_self])); have n5_ := aM (Kd.S_mono (ok' := fun k_ => N_HO348 ≤ k_ ∧ N_HO348 ≤ k_) (Kd.S_keptB ((Kd.S_apart' HO348.out (Kd.R_typed HO341.out) (by decide))) hkp (fun k_ hk_ hs_ => by simp only [ne_eq, hs_, not_true_eq_false, and_false, false_and] at hk_)) (fun k_ hk_ => by simp only [ne_eq, hk_, not_false_eq_true, and_self])); have n6_ := aM (hb); clear BK319; clear HO334; clear HO341; clear BK342; clear HO345; clear HO348; clear HB; have BK319 := n0_; have HO334 := n1_; have HO341 := n2_; have BK342 := n3_; have HO345 := n4_; have HO348 := n5_; have HB := n6_; clear n0_ n1_ n2_ n3_ n4_ n5_ n6_; (try clear hb); (try clear hkp); (try clear hy0)) | ((with_reducible refine gate_callee (f := 52) rfl ?_); refine goesL_ (some 55) rfl rfl Try.func52 (by kernel_rfl) rfl #[.slice Ao49 t343.length co49, .int .i64 t362] rfl (by (try simp only [List.map_toArray, List.map_cons, List.map_nil]); first | done | rfl | (simp only [List.length_drop, List.length_take]; rfl)) ?_; (refine (laws_markScanS.calls k _ (.slice Ao49 t343.length co49) t343 t362 t364 t365 w _ ?side1 (by first | exact Kd.S_bound HO345.out | exact Kd.S_drewN (Kd.S_bound HO345.out) _) A29.out).mono ?_); (case side1 => repeat (first | (with_reducible first | exact HB.out | apply bA | apply bN | apply b1 | refine bS ?_ GE319.out | refine bS ?_ GE342.out) | exact HB.out)); rintro e w62 ⟨rfl, hy0, hb, hkp⟩; refine ⟨_, rfl, ?_⟩; ((first | (with_reducible have hq_ := blk_kept (kN BK319.out _) hkp) | (with_reducible have hq_ := blk_kept BK319.out hkp)); have n0_ := aM (hq_ (fun hs_ => blkNo (by (with_reducible repeat (first | apply kN | apply kD | apply kA)); exact BK319.out) hs_.2.2.2 (by decide))); clear hq_); ((first | (with_reducible have hq_ := Kd.S_kept (Kd.S_drewN HO334.out _) hkp) | (with_reducible have hq_ := Kd.S_kept HO334.out hkp)); have n1_ := aM (hq_ (fun k_ h_ hs_ => Nat.lt_irrefl _ (Nat.lt_of_lt_of_le (h_.1) (hs_.1.1)))); clear hq_); have n2_ := aM (keptT rfl (by (with_reducible repeat (first | apply Kd.R_alloc | apply Kd.R_drewN | apply Kd.R_drew)); exact HO341.out) hkp (fun _ h_ => h_.2.2.2) (by decide)); ((first | (with_reducible have hq_ := blk_kept (kN BK342.out _) hkp) | (with_reducible have hq_ := blk_kept BK342.out hkp)); have n3_ := aM (hq_ (fun hs_ => blkNo (by (with_reducible repeat (first | apply kN | apply kD | apply kA)); exact BK342.out) hs_.2.2.2 (by decide))); clear hq_); have n4_ := aM (Kd.S_mono hy0 (fun _ h_ => h_.1)); ((first | (with_reducible have hq_ := Kd.S_kept (Kd.S_drewN HO348.out _) hkp) | (with_reducible have hq_ := Kd.S_kept HO348.out hkp)); have n5_ := aM (hq_ (fun k_ h_ hs_ => Nat.lt_irrefl _ (Nat.lt_of_lt_of_le (hs_.1.2) (h_.2)))); clear hq_); have n6_ := aM (hb); clear BK319; clear HO334; clear HO341; clear BK342; clear HO345; clear HO348; clear HB; have BK319 := n0_; have HO334 := n1_; have HO341 := n2_; have BK342 := n3_; have HO345 := n4_; have HO348 := n5_; have HB := n6_; clear n0_ n1_ n2_ n3_ n4_ n5_ n6_; (try clear hb); (try clear hkp); (try clear hy0)))
      (try simp only [Act.put, List.setIfInBounds_toArray, List.set_cons_zero, List.set_cons_succ])
      go_cut [63] (fun v63 wc => ∃ (kq : Nat) (x63_29 : Bool), v63 = .bool x63_29 ∧ Aside0 (laws_FnExactLeftOf.j0 kq l1 t332 t346 x63_29 a0_0 a0_1 a0_2 a0_3 l0_4 = some r) ∧ Aside0 (kq ≤ k) ∧ Aside0 (Kd.S (Kd.slice 3 (Kd.int .i64)) 22 wc w.heap.size (fun k_ => k_ < N_HO348) (.slice Ao52 t332.length co52) t332) ∧ Aside0 (Kd.S (Kd.slice 3 (Kd.int .i64)) 22 wc w.heap.size (fun k_ => N_HO348 ≤ k_) (.slice Ao51 t346.length co51) t346) ∧ Aside0 (Kd.R k42 42 wc w.heap.size (fun _ => True) (.slice Ao46 t339.length co46) t363) ∧ Aside0 (wc.heap[gb319]? = some (.cells #[.int .i64 a0_0, .int .i64 a0_1, .int .i64 a0_2, .int .i64 a0_3, (.slice A0_4 l0_4.length c0_4)] 55 (0, 0))) ∧ Aside0 (wc.heap[gb342]? = some (.cells #[.int .i64 t335, .int .i64 t336, .int .i64 t337, .int .i64 t338, (.slice Ao46 t339.length co46)] 45 (0, 0))) ∧ Aside0 (Below w.heap.size w wc))
      case first =>
       have H := HC30.out
       clear HC30
       by_cases c63 : t364 < 0
       ·rw [if_pos c63] at H
        have c63b0 : decide (t364 < 0) = true := decide_eq_true c63
        clear c63
        (first | rw [c63b0] | (simp only [i64_w, i32_w]; rw [c63b0]) | skip)
        have H' := aM H
        clear H
        go_wp2
        go_meet
        case rel => exact ⟨_, (true), (by first | rfl | (simp; done) | (simp [*]; done)), H', ⟨by first | omega | exact Nat.le_refl _⟩, ⟨by (with_reducible repeat (first | apply Kd.S_alloc | apply Kd.S_drewN | apply Kd.S_drew)); exact Kd.S_mono HO334.out (fun _ hk => by first | exact hk.2 | simp only [ne_eq, hk, not_false_eq_true, and_self])⟩, ⟨by (with_reducible repeat (first | apply Kd.S_alloc | apply Kd.S_drewN | apply Kd.S_drew)); exact Kd.S_mono HO348.out (fun _ hk => by first | exact hk.1 | simp only [ne_eq, hk, not_false_eq_true, and_self])⟩, ⟨by (with_reducible repeat (first | apply Kd.R_alloc | apply Kd.R_drewN | apply Kd.R_drew)); exact Kd.R_mono HO341.out (fun _ hk => trivial)⟩, ⟨by (with_reducible repeat (first | apply kN | apply kD | apply kA)); exact BK319.out⟩, ⟨by (with_reducible repeat (first | apply kN | apply kD | apply kA)); exact BK342.out⟩, ⟨by repeat (first | (with_reducible first | exact HB.out | apply bA | apply bN | apply b1 | refine bS ?_ GE319.out | refine bS ?_ GE342.out) | exact HB.out)⟩⟩
       ·rw [if_neg c63] at H
        have c63b0 : decide (t364 < 0) = false := decide_eq_false c63
        clear c63
        (first | rw [c63b0] | (simp only [i64_w, i32_w]; rw [c63b0]) | skip)
        replace H := oB H
        obtain ⟨t366, A640, H⟩ := H
        replace H : (laws_FnExactLeftOf.j0 k l1 t332 t346 (!t366) a0_0 a0_1 a0_2 a0_3 l0_4) = some r := H
        have A64 := aM A640
        clear A640
        have H' := aM H
        clear H
        go_wp2_with (first | (go_at_call 63; (with_reducible refine (laws_eqIntSS.calls k _ _ t346 _ _ t332 t366 _ ?side1 ?side2 ?side3 ?side4 A64.out).mono ?_); (case side1 => repeat (first | exact (Kd.S_reads' HO348.out).2.2 | (with_reducible first | refine Kd.C_alloc ?_ _ | refine Kd.C_drewN ?_ _ | refine Kd.C_drew ?_))); (case side2 => exact (Kd.S_reads' HO348.out).2.1); (case side3 => repeat (first | exact (Kd.S_reads' HO334.out).2.2 | (with_reducible first | refine Kd.C_alloc ?_ _ | refine Kd.C_drewN ?_ _ | refine Kd.C_drew ?_))); (case side4 => exact (Kd.S_reads' HO334.out).2.1); rintro e w' ⟨rfl, ⟨nd, rfl⟩⟩))
        go_meet
        case rel => exact ⟨_, (!t366), (by first | rfl | (simp; done) | (simp [*]; done)), H', ⟨by first | omega | exact Nat.le_refl _⟩, ⟨by (with_reducible repeat (first | apply Kd.S_alloc | apply Kd.S_drewN | apply Kd.S_drew)); exact Kd.S_mono HO334.out (fun _ hk => by first | exact hk.2 | simp only [ne_eq, hk, not_false_eq_true, and_self])⟩, ⟨by (with_reducible repeat (first | apply Kd.S_alloc | apply Kd.S_drewN | apply Kd.S_drew)); exact Kd.S_mono HO348.out (fun _ hk => by first | exact hk.1 | simp only [ne_eq, hk, not_false_eq_true, and_self])⟩, ⟨by (with_reducible repeat (first | apply Kd.R_alloc | apply Kd.R_drewN | apply Kd.R_drew)); exact Kd.R_mono HO341.out (fun _ hk => trivial)⟩, ⟨by (with_reducible repeat (first | apply kN | apply kD | apply kA)); exact BK319.out⟩, ⟨by (with_reducible repeat (first | apply kN | apply kD | apply kA)); exact BK342.out⟩, ⟨by repeat (first | (with_reducible first | exact HB.out | apply bA | apply bN | apply b1 | refine bS ?_ GE319.out | refine bS ?_ GE342.out) | exact HB.out)⟩⟩
      case rest =>
       clear HC30
       (try clear c1); (try clear c2); (try clear p2); (try clear c3); (try clear c4); (try clear c4b0); (try clear c5); (try clear c6); (try clear c9); (try clear c9b0); (try clear c13); (try clear c21); (try clear c24); (try clear c27); (try clear c36); (try clear c39); (try clear c41); (try clear c43); (try clear c44); (try clear c47); (try clear c51); (try clear c52); (try clear c58); (try clear c60); (try clear c62); (try clear c63); (try clear c63b0); (try clear hcz11_0); (try clear hcz11_1); (try clear hcz11_2); (try clear hcz11_3); (try clear hcz11_4); (try clear hcz32_0); (try clear hcz32_1); (try clear hcz32_2); (try clear hcz32_3); (try clear hcz32_4); (try clear hcz35_0); (try clear hcz35_1); (try clear hcz35_2); (try clear hcz35_3); (try clear hcz35_4); (try clear hcz41_0); (try clear hcz41_1); (try clear hcz41_2); (try clear hcz41_3); (try clear hcz41_4); (try clear hcz45_0); (try clear hcz45_1); (try clear hcz45_2); (try clear hcz45_3); (try clear hcz45_4); (try clear hcz48_0); (try clear hcz48_1); (try clear hcz48_2); (try clear hcz48_3); (try clear hcz48_4); (try clear hcz60_0); (try clear hcz60_1); (try clear hcz60_2); (try clear hcz60_3); (try clear hcz60_4); (try clear hcz6_0); (try clear hcz6_1); (try clear hcz6_2); (try clear hcz6_3); (try clear hcz6_4); (try clear hfz11_0); (try clear hfz11_1); (try clear hfz11_2); (try clear hfz11_3); (try clear hfz11_4); (try clear hfz32_0); (try clear hfz32_1); (try clear hfz32_2); (try clear hfz32_3); (try clear hfz32_4); (try clear hfz35_0); (try clear hfz35_1); (try clear hfz35_2); (try clear hfz35_3); (try clear hfz35_4); (try clear hfz41_0); (try clear hfz41_1); (try clear hfz41_2); (try clear hfz41_3); (try clear hfz41_4); (try clear hfz45_0); (try clear hfz45_1); (try clear hfz45_2); (try clear hfz45_3); (try clear hfz45_4); (try clear hfz48_0); (try clear hfz48_1); (try clear hfz48_2); (try clear hfz48_3); (try clear hfz48_4); (try clear hfz60_0); (try clear hfz60_1); (try clear hfz60_2); (try clear hfz60_3); (try clear hfz60_4); (try clear hfz6_0); (try clear hfz6_1); (try clear hfz6_2); (try clear hfz6_3); (try clear hfz6_4)
       obtain ⟨kq, x63_29, rfl, HA, HJ29, HO_6, HO_9, HO_343004, BK319, BK342, HB⟩ := hcut
       have hl343004_29 := (Kd.R_reads' HO_343004.out).1
       rw [hl343004_29] at HO_343004
       (try simp only [hl343004_29])
       (try simp only [hl343004_29] at BK319)
       (try simp only [hl343004_29] at BK342)
       (try simp only [hl343004_29] at HO_6)
       (try simp only [hl343004_29] at HO_9)
       cases kq with
       | zero => exact absurd HA.out (by simp [laws_FnExactLeftOf.j0])
       | succ kj29 =>
        have H := HA.out
        clear HA
        simp only [laws_FnExactLeftOf.j0] at H
        by_cases c65 : x63_29 = true
        ·subst c65
         have H1 : (some false) = some r := by rw [if_pos rfl] at H; exact H
         clear H
         have H := H1
         clear H1
         exact noArm H HTRUE_.out
        ·replace c65 := Bool.eq_false_iff.mpr c65
         subst c65
         have H1 : ((laws_markIntSS.f kj29 t346 1).bind fun bt367 => ((laws_heldIntSS.f kj29 bt367.2 1).bind fun t369 => (if t369 < 0 then (some false) else (if t369 = bt367.1 then ((laws_toFrame.f kj29 a0_0 a0_1 a0_2 a0_3 l0_4).bind fun bt370 => ((laws_toScanS.f kj29 l1).bind fun t377 => ((impl_LeftOf.f kj29 bt370.1 bt370.2.1 bt370.2.2.1 bt370.2.2.2.1 bt370.2.2.2.2 t377).bind fun t380 => ((laws_eqIntSS.f kj29 t380 t332).bind fun t383 => (if t383 = true then ((laws_heldIntSS.f kj29 bt367.2 1).bind fun t384 => (if t384 < 0 then (some false) else (if t384 = bt367.1 then (some true) else (some false)))) else (some false)))))) else (some false))))) = some r := by rw [if_neg (show ¬ (false = true) by decide)] at H; exact H
         clear H
         have H := H1
         clear H1
         replace H := oB H
         obtain ⟨⟨t367, t368⟩, A660, H⟩ := H
         replace H : ((laws_heldIntSS.f kj29 t368 1).bind fun t369 => (if t369 < 0 then (some false) else (if t369 = t367 then ((laws_toFrame.f kj29 a0_0 a0_1 a0_2 a0_3 l0_4).bind fun bt370 => ((laws_toScanS.f kj29 l1).bind fun t377 => ((impl_LeftOf.f kj29 bt370.1 bt370.2.1 bt370.2.2.1 bt370.2.2.2.1 bt370.2.2.2.2 t377).bind fun t380 => ((laws_eqIntSS.f kj29 t380 t332).bind fun t383 => (if t383 = true then ((laws_heldIntSS.f kj29 t368 1).bind fun t384 => (if t384 < 0 then (some false) else (if t384 = t367 then (some true) else (some false)))) else (some false)))))) else (some false)))) = some r := H
         have A66 := aM A660
         clear A660
         replace H := oB H
         obtain ⟨t369, A670, H⟩ := H
         replace H : (if t369 < 0 then (some false) else (if t369 = t367 then ((laws_toFrame.f kj29 a0_0 a0_1 a0_2 a0_3 l0_4).bind fun bt370 => ((laws_toScanS.f kj29 l1).bind fun t377 => ((impl_LeftOf.f kj29 bt370.1 bt370.2.1 bt370.2.2.1 bt370.2.2.2.1 bt370.2.2.2.2 t377).bind fun t380 => ((laws_eqIntSS.f kj29 t380 t332).bind fun t383 => (if t383 = true then ((laws_heldIntSS.f kj29 t368 1).bind fun t384 => (if t384 < 0 then (some false) else (if t384 = t367 then (some true) else (some false)))) else (some false)))))) else (some false))) = some r := H
         have A67 := aM A670
         clear A670
         by_cases c68 : t369 < 0
         ·rw [if_pos c68] at H
          have c68b0 : decide (t369 < 0) = true := decide_eq_true c68
          clear c68
          exact noArm H HTRUE_.out
         ·rw [if_neg c68] at H
          have c68b0 : decide (t369 < 0) = false := decide_eq_false c68
          clear c68
          by_cases c69 : t369 = t367
          ·rw [if_pos c69] at H
           have c69b0 : (t369 == t367) = true := beq_iff_eq.mpr c69
           have c69b1 : (t369 != t367) = false := bne_eq_false_iff_eq.mpr c69
           clear c69
           replace H := oB H
           obtain ⟨⟨t370, t371, t372, t373, t374⟩, A700, H⟩ := H
           replace H : ((laws_toScanS.f kj29 l1).bind fun t377 => ((impl_LeftOf.f kj29 t370 t371 t372 t373 t374 t377).bind fun t380 => ((laws_eqIntSS.f kj29 t380 t332).bind fun t383 => (if t383 = true then ((laws_heldIntSS.f kj29 t368 1).bind fun t384 => (if t384 < 0 then (some false) else (if t384 = t367 then (some true) else (some false)))) else (some false))))) = some r := H
           have A70 := aM A700
           clear A700
           replace H := oB H
           obtain ⟨t377, A710, H⟩ := H
           replace H : ((impl_LeftOf.f kj29 t370 t371 t372 t373 t374 t377).bind fun t380 => ((laws_eqIntSS.f kj29 t380 t332).bind fun t383 => (if t383 = true then ((laws_heldIntSS.f kj29 t368 1).bind fun t384 => (if t384 < 0 then (some false) else (if t384 = t367 then (some true) else (some false)))) else (some false)))) = some r := H
           have A71 := aM A710
           clear A710
           replace H := oB H
           obtain ⟨t380, A720, H⟩ := H
           replace H : ((laws_eqIntSS.f kj29 t380 t332).bind fun t383 => (if t383 = true then ((laws_heldIntSS.f kj29 t368 1).bind fun t384 => (if t384 < 0 then (some false) else (if t384 = t367 then (some true) else (some false)))) else (some false))) = some r := H
           have A72 := aM A720
           clear A720
           replace H := oB H
           obtain ⟨t383, A730, H⟩ := H
           replace H : (if t383 = true then ((laws_heldIntSS.f kj29 t368 1).bind fun t384 => (if t384 < 0 then (some false) else (if t384 = t367 then (some true) else (some false)))) else (some false)) = some r := H
           have A73 := aM A730
           clear A730
           by_cases c74 : t383 = true
           ·subst c74
            have H1 : ((laws_heldIntSS.f kj29 t368 1).bind fun t384 => (if t384 < 0 then (some false) else (if t384 = t367 then (some true) else (some false)))) = some r := by rw [if_pos rfl] at H; exact H
            clear H
            have H := H1
            clear H1
            replace H := oB H
            obtain ⟨t384, A750, H⟩ := H
            replace H : (if t384 < 0 then (some false) else (if t384 = t367 then (some true) else (some false))) = some r := H
            have A75 := aM A750
            clear A750
            by_cases c76 : t384 < 0
            ·rw [if_pos c76] at H
             have c76b0 : decide (t384 < 0) = true := decide_eq_true c76
             clear c76
             exact noArm H HTRUE_.out
            ·rw [if_neg c76] at H
             have c76b0 : decide (t384 < 0) = false := decide_eq_false c76
             clear c76
             by_cases c77 : t384 = t367
             ·rw [if_pos c77] at H
              have c77b0 : (t384 == t367) = true := beq_iff_eq.mpr c77
              have c77b1 : (t384 != t367) = false := bne_eq_false_iff_eq.mpr c77
              clear c77
              obtain rfl := Option.some.inj H
              go_wp2_with (first | ((with_reducible refine gate_callee (f := 64) rfl ?_); refine goesL_ (some 66) rfl rfl Try.func64 (by kernel_rfl) rfl #[.slice Ao51 t346.length co51, .int .i64 1] rfl (by (try simp only [List.map_toArray, List.map_cons, List.map_nil]); first | done | rfl | (simp only [List.length_drop, List.length_take]; rfl)) ?_; (refine (laws_markIntSS.calls kj29 _ (.slice Ao51 t346.length co51) t346 1 t367 t368 w _ ?side1 (by first | exact Kd.S_bound HO_9.out | exact Kd.S_drewN (Kd.S_bound HO_9.out) _) A66.out).mono ?_); (case side1 => repeat (first | (with_reducible first | exact HB.out | apply bA | apply bN | apply b1 | refine bS ?_ GE319.out | refine bS ?_ GE342.out) | exact HB.out)); rintro e w78 ⟨rfl, hy0, hb, hkp⟩; refine ⟨_, rfl, ?_⟩; ((first | (with_reducible have hq_ := Kd.S_kept (Kd.S_drewN HO_6.out _) hkp) | (with_reducible have hq_ := Kd.S_kept HO_6.out hkp)); have n0_ := aM (hq_ (fun k_ h_ hs_ => Nat.lt_irrefl _ (Nat.lt_of_lt_of_le (h_) (hs_.1)))); clear hq_); have n1_ := aM (Kd.S_mono hy0 (fun _ h_ => h_.1)); have n2_ := aM (keptT rfl (by (with_reducible repeat (first | apply Kd.R_alloc | apply Kd.R_drewN | apply Kd.R_drew)); exact HO_343004.out) hkp (fun _ h_ => h_.2.2.2) (by decide)); ((first | (with_reducible have hq_ := blk_kept (kN BK319.out _) hkp) | (with_reducible have hq_ := blk_kept BK319.out hkp)); have n3_ := aM (hq_ (fun hs_ => blkNo (by (with_reducible repeat (first | apply kN | apply kD | apply kA)); exact BK319.out) hs_.2.2.2 (by decide))); clear hq_); ((first | (with_reducible have hq_ := blk_kept (kN BK342.out _) hkp) | (with_reducible have hq_ := blk_kept BK342.out hkp)); have n4_ := aM (hq_ (fun hs_ => blkNo (by (with_reducible repeat (first | apply kN | apply kD | apply kA)); exact BK342.out) hs_.2.2.2 (by decide))); clear hq_); have n5_ := aM (hb); clear HO_6; clear HO_9; clear HO_343004; clear BK319; clear BK342; clear HB; have HO_6 := n0_; have HO_9 := n1_; have HO_343004 := n2_; have BK319 := n3_; have BK342 := n4_; have HB := n5_; clear n0_ n1_ n2_ n3_ n4_ n5_; (try clear hb); (try clear hkp); (try clear hy0)) | ((with_reducible refine gate_callee (f := 65) rfl ?_); refine goesL_ (some 69) rfl rfl Try.func65 (by kernel_rfl) rfl #[.slice Ao51 t368.length co51, .int .i64 1] rfl (by (try simp only [List.map_toArray, List.map_cons, List.map_nil]); first | done | (rw [show t368.length = t346.length from (Kd.S_reads' HO_9.out).1.symm] <;> rfl) | rfl | (simp only [List.length_drop, List.length_take]; rfl)) ?_; (with_reducible refine (laws_heldIntSS.calls kj29 _ _ t368 1 t369 _ ?side1 ?side2 A67.out).mono ?_); (case side1 => repeat (first | exact (Kd.S_reads' HO_9.out).2.2 | (with_reducible first | refine Kd.C_alloc ?_ _ | refine Kd.C_drewN ?_ _ | refine Kd.C_drew ?_))); (case side2 => rw [show t368.length = t346.length from (Kd.S_reads' HO_9.out).1.symm]; exact (Kd.S_reads' HO_9.out).2.1); rintro e w' ⟨rfl, ⟨nd, rfl⟩⟩; refine ⟨_, rfl, ?_⟩; have hnb79 := NB319_342.out; have hnc79 := NB342_319.out; have hcz80_0 : w78.cell? ⟨gb319, 0, none⟩ = some (.int .i64 a0_0) := (kC BK319.out 0).trans rfl; have hcz80_1 : w78.cell? ⟨gb319, 1, none⟩ = some (.int .i64 a0_1) := (kC BK319.out 1).trans rfl; have hcz80_2 : w78.cell? ⟨gb319, 2, none⟩ = some (.int .i64 a0_2) := (kC BK319.out 2).trans rfl; have hcz80_3 : w78.cell? ⟨gb319, 3, none⟩ = some (.int .i64 a0_3) := (kC BK319.out 3).trans rfl; have hcz80_4 : w78.cell? ⟨gb319, 4, none⟩ = some (.slice A0_4 l0_4.length c0_4) := (kC BK319.out 4).trans rfl; have hfz80_0 := blk_frozen BK319.out 0; have hfz80_1 := blk_frozen BK319.out 1; have hfz80_2 := blk_frozen BK319.out 2; have hfz80_3 := blk_frozen BK319.out 3; have hfz80_4 := blk_frozen BK319.out 4) | ((with_reducible refine gate_callee (f := 41) rfl ?_); refine goesL_ (some 76) rfl rfl Try.func41 (by kernel_rfl) rfl #[.agg #[.int .i64 a0_0, .int .i64 a0_1, .int .i64 a0_2, .int .i64 a0_3, .slice A0_4 l0_4.length c0_4]] rfl (by (try simp only [List.map_toArray, List.map_cons, List.map_nil]); first | done | rfl | (simp only [List.length_drop, List.length_take]; rfl)) ?_; (with_reducible refine (laws_toFrame.calls kj29 a0_0 a0_1 a0_2 a0_3 _ _ l0_4 t370 t371 t372 t373 t374 _ ?side1 ?side2 A70.out).mono ?_); (case side1 => repeat (first | exact (Kd.C_below HR0_4.out (by repeat (first | (with_reducible first | exact HB.out | apply bA | apply bN | apply b1 | refine bS ?_ GE319.out | refine bS ?_ GE342.out) | exact HB.out))) | (with_reducible first | refine Kd.C_alloc ?_ _ | refine Kd.C_drewN ?_ _ | refine Kd.C_drew ?_))); (case side2 => exact HC0_4.out); rintro e w81 ⟨v375, rfl, ho0, hb⟩; refine ⟨_, rfl, ?_⟩; have n0_ := aM (Kd.S_below (by (with_reducible repeat (first | apply Kd.S_alloc | apply Kd.S_drewN | apply Kd.S_drew)); exact HO_6.out) hb); have n1_ := aM (Kd.S_below (by (with_reducible repeat (first | apply Kd.S_alloc | apply Kd.S_drewN | apply Kd.S_drew)); exact HO_9.out) hb); have n2_ := aM (Kd.R_elder' (by (with_reducible repeat (first | apply Kd.R_alloc | apply Kd.R_drewN | apply Kd.R_drew)); exact HO_343004.out) (Kd.R_base ho0) hb); have n3_ := aM (Kd.R_lower (Kd.R_new' ho0 (Kd.R_lt (by (with_reducible repeat (first | apply Kd.R_alloc | apply Kd.R_drewN | apply Kd.R_drew)); exact HO_343004.out))) (below_size (by repeat (first | (with_reducible first | exact HB.out | apply bA | apply bN | apply b1 | refine bS ?_ GE319.out | refine bS ?_ GE342.out) | exact HB.out)))); have n4_ := aM (blk_below (g := gb319) (o := .cells #[.int .i64 a0_0, .int .i64 a0_1, .int .i64 a0_2, .int .i64 a0_3, .slice A0_4 l0_4.length c0_4] 55 (0, 0)) (by (with_reducible repeat (first | apply kN | apply kD | apply kA)); exact BK319.out) hb); have n5_ := aM (blk_below (g := gb342) (o := .cells #[.int .i64 t335, .int .i64 t336, .int .i64 t337, .int .i64 t338, .slice Ao46 t363.length co46] 45 (0, 0)) (by (with_reducible repeat (first | apply kN | apply kD | apply kA)); exact BK342.out) hb); have n6_ := aM (below_step (by repeat (first | (with_reducible first | exact HB.out | apply bA | apply bN | apply b1 | refine bS ?_ GE319.out | refine bS ?_ GE342.out) | exact HB.out)) hb); clear HO_6; clear HO_9; clear HO_343004; clear BK319; clear BK342; clear HB; have HO_6 := n0_; have HO_9 := n1_; have HO_343004 := n2_; have HO376 := n3_; have BK319 := n4_; have BK342 := n5_; have HB := n6_; clear n0_ n1_ n2_ n3_ n4_ n5_ n6_; (try clear hb); (try clear hb2); (try clear hk); (try clear hi); (try clear ho0)) | ((with_reducible refine gate_callee (f := 60) rfl ?_); refine goesL_ (some 78) rfl rfl Try.func60 (by kernel_rfl) rfl #[.slice A1 l1.length c1] rfl (by (try simp only [List.map_toArray, List.map_cons, List.map_nil]); first | done | rfl | (simp only [List.length_drop, List.length_take]; rfl)) ?_; (with_reducible refine (laws_toScanS.calls kj29 _ _ l1 t377 _ ?side1 ?side2 A71.out).mono ?_); (case side1 => repeat (first | exact (Kd.C_below HR1.out HB.out) | (with_reducible first | refine Kd.C_alloc ?_ _ | refine Kd.C_drewN ?_ _ | refine Kd.C_drew ?_))); (case side2 => exact HC1.out); rintro e w82 ⟨v378, rfl, ho0, hb⟩; refine ⟨_, rfl, ?_⟩; obtain ⟨N_HO379, hN_HO379⟩ := sepN ho0; have n0_ := aM (sepO (by (with_reducible repeat (first | apply Kd.S_alloc | apply Kd.S_drewN | apply Kd.S_drew)); exact HO_6.out) hN_HO379 hb); have n1_ := aM (sepO (by (with_reducible repeat (first | apply Kd.S_alloc | apply Kd.S_drewN | apply Kd.S_drew)); exact HO_9.out) hN_HO379 hb); have n2_ := aM (Kd.R_below (by (with_reducible repeat (first | apply Kd.R_alloc | apply Kd.R_drewN | apply Kd.R_drew)); exact HO_343004.out) hb); have n3_ := aM (Kd.R_below (by (with_reducible repeat (first | apply Kd.R_alloc | apply Kd.R_drewN | apply Kd.R_drew)); exact HO376.out) hb); have n4_ := aM (Kd.S_lower (sepW (sepW ho0 hN_HO379) hN_HO379) (below_size (by repeat (first | (with_reducible first | exact HB.out | apply bA | apply bN | apply b1 | refine bS ?_ GE319.out | refine bS ?_ GE342.out) | exact HB.out)))); have n5_ := aM (blk_below (g := gb319) (o := .cells #[.int .i64 a0_0, .int .i64 a0_1, .int .i64 a0_2, .int .i64 a0_3, .slice A0_4 l0_4.length c0_4] 55 (0, 0)) (by (with_reducible repeat (first | apply kN | apply kD | apply kA)); exact BK319.out) hb); have n6_ := aM (blk_below (g := gb342) (o := .cells #[.int .i64 t335, .int .i64 t336, .int .i64 t337, .int .i64 t338, .slice Ao46 t363.length co46] 45 (0, 0)) (by (with_reducible repeat (first | apply kN | apply kD | apply kA)); exact BK342.out) hb); have n7_ := aM (below_step (by repeat (first | (with_reducible first | exact HB.out | apply bA | apply bN | apply b1 | refine bS ?_ GE319.out | refine bS ?_ GE342.out) | exact HB.out)) hb); clear HO_6; clear HO_9; clear HO_343004; clear HO376; clear BK319; clear BK342; clear HB; have HO_6 := n0_; have HO_9 := n1_; have HO_343004 := n2_; have HO376 := n3_; have HO379 := n4_; have BK319 := n5_; have BK342 := n6_; have HB := n7_; clear n0_ n1_ n2_ n3_ n4_ n5_ n6_ n7_; (try clear hb); (try clear hb2); (try clear hk); (try clear hi); (try clear ho0); obtain ⟨Ao83, co83, eo83⟩ := Kd.R_slice HO376.out; subst eo83; obtain ⟨Ao84, co84, eo84⟩ := Kd.S_slice HO379.out; subst eo84) | ((with_reducible refine gate_callee (f := 62) rfl ?_); refine goesL_ (some 79) rfl rfl Try.func62 (by kernel_rfl) rfl #[.agg #[.int .i64 t370, .int .i64 t371, .int .i64 t372, .int .i64 t373, .slice Ao83 t374.length co83], .slice Ao84 t377.length co84] rfl (by (try simp only [List.map_toArray, List.map_cons, List.map_nil]); first | done | rfl | (simp only [List.length_drop, List.length_take]; rfl)) ?_; (with_reducible refine (impl_LeftOf.calls kj29 t370 t371 t372 t373 _ _ t374 _ _ t377 t380 _ ?side1 ?side2 ?side3 ?side4 A72.out).mono ?_); (case side1 => repeat (first | exact (Kd.R_reads' HO376.out).2.2 | (with_reducible first | refine Kd.C_alloc ?_ _ | refine Kd.C_drewN ?_ _ | refine Kd.C_drew ?_))); (case side2 => exact (Kd.R_reads' HO376.out).2.1); (case side3 => repeat (first | exact (Kd.S_reads' HO379.out).2.2 | (with_reducible first | refine Kd.C_alloc ?_ _ | refine Kd.C_drewN ?_ _ | refine Kd.C_drew ?_))); (case side4 => exact (Kd.S_reads' HO379.out).2.1); rintro e w85 ⟨v381, rfl, ho0, hb⟩; refine ⟨_, rfl, ?_⟩; obtain ⟨N_HO382, hN_HO382⟩ := sepN ho0; have n0_ := aM (sepO (by (with_reducible repeat (first | apply Kd.S_alloc | apply Kd.S_drewN | apply Kd.S_drew)); exact HO_6.out) hN_HO382 hb); have n1_ := aM (sepO (by (with_reducible repeat (first | apply Kd.S_alloc | apply Kd.S_drewN | apply Kd.S_drew)); exact HO_9.out) hN_HO382 hb); have n2_ := aM (Kd.R_below (by (with_reducible repeat (first | apply Kd.R_alloc | apply Kd.R_drewN | apply Kd.R_drew)); exact HO_343004.out) hb); have n3_ := aM (Kd.R_below (by (with_reducible repeat (first | apply Kd.R_alloc | apply Kd.R_drewN | apply Kd.R_drew)); exact HO376.out) hb); have n4_ := aM (sepO (by (with_reducible repeat (first | apply Kd.S_alloc | apply Kd.S_drewN | apply Kd.S_drew)); exact HO379.out) hN_HO382 hb); have n5_ := aM (Kd.S_lower (sepW (sepW (sepW ho0 hN_HO382) hN_HO382) hN_HO382) (below_size (by repeat (first | (with_reducible first | exact HB.out | apply bA | apply bN | apply b1 | refine bS ?_ GE319.out | refine bS ?_ GE342.out) | exact HB.out)))); have n6_ := aM (blk_below (g := gb319) (o := .cells #[.int .i64 a0_0, .int .i64 a0_1, .int .i64 a0_2, .int .i64 a0_3, .slice A0_4 l0_4.length c0_4] 55 (0, 0)) (by (with_reducible repeat (first | apply kN | apply kD | apply kA)); exact BK319.out) hb); have n7_ := aM (blk_below (g := gb342) (o := .cells #[.int .i64 t335, .int .i64 t336, .int .i64 t337, .int .i64 t338, .slice Ao46 t363.length co46] 45 (0, 0)) (by (with_reducible repeat (first | apply kN | apply kD | apply kA)); exact BK342.out) hb); have n8_ := aM (below_step (by repeat (first | (with_reducible first | exact HB.out | apply bA | apply bN | apply b1 | refine bS ?_ GE319.out | refine bS ?_ GE342.out) | exact HB.out)) hb); clear HO_6; clear HO_9; clear HO_343004; clear HO376; clear HO379; clear BK319; clear BK342; clear HB; have HO_6 := n0_; have HO_9 := n1_; have HO_343004 := n2_; have HO376 := n3_; have HO379 := n4_; have HO382 := n5_; have BK319 := n6_; have BK342 := n7_; have HB := n8_; clear n0_ n1_ n2_ n3_ n4_ n5_ n6_ n7_ n8_; (try clear hb); (try clear hb2); (try clear hk); (try clear hi); (try clear ho0); obtain ⟨Ao86, co86, eo86⟩ := Kd.S_slice HO382.out; subst eo86) | ((with_reducible refine gate_callee (f := 63) rfl ?_); refine goesL_ (some 82) rfl rfl Try.func63 (by kernel_rfl) rfl #[.slice Ao86 t380.length co86, .slice Ao52 t332.length co52] rfl (by (try simp only [List.map_toArray, List.map_cons, List.map_nil]); first | done | rfl | (simp only [List.length_drop, List.length_take]; rfl)) ?_; (with_reducible refine (laws_eqIntSS.calls kj29 _ _ t380 _ _ t332 true _ ?side1 ?side2 ?side3 ?side4 A73.out).mono ?_); (case side1 => repeat (first | exact (Kd.S_reads' HO382.out).2.2 | (with_reducible first | refine Kd.C_alloc ?_ _ | refine Kd.C_drewN ?_ _ | refine Kd.C_drew ?_))); (case side2 => exact (Kd.S_reads' HO382.out).2.1); (case side3 => repeat (first | exact (Kd.S_reads' HO_6.out).2.2 | (with_reducible first | refine Kd.C_alloc ?_ _ | refine Kd.C_drewN ?_ _ | refine Kd.C_drew ?_))); (case side4 => exact (Kd.S_reads' HO_6.out).2.1); rintro e w' ⟨rfl, ⟨nd, rfl⟩⟩; refine ⟨_, rfl, ?_⟩) | ((with_reducible refine gate_callee (f := 65) rfl ?_); refine goesL_ (some 86) rfl rfl Try.func65 (by kernel_rfl) rfl #[.slice Ao51 t368.length co51, .int .i64 1] rfl (by (try simp only [List.map_toArray, List.map_cons, List.map_nil]); first | done | (rw [show t368.length = t346.length from (Kd.S_reads' HO_9.out).1.symm] <;> rfl) | rfl | (simp only [List.length_drop, List.length_take]; rfl)) ?_; (with_reducible refine (laws_heldIntSS.calls kj29 _ _ t368 1 t384 _ ?side1 ?side2 A75.out).mono ?_); (case side1 => repeat (first | exact (Kd.S_reads' HO_9.out).2.2 | (with_reducible first | refine Kd.C_alloc ?_ _ | refine Kd.C_drewN ?_ _ | refine Kd.C_drew ?_))); (case side2 => rw [show t368.length = t346.length from (Kd.S_reads' HO_9.out).1.symm]; exact (Kd.S_reads' HO_9.out).2.1); rintro e w' ⟨rfl, ⟨nd, rfl⟩⟩; refine ⟨_, rfl, ?_⟩))
              go_ret
              exact ⟨by first | rfl | (simp [*, errW_none, errW_some] <;> rfl), by repeat (first | (with_reducible first | exact HB.out | apply bA | apply bN | apply b1 | refine bS ?_ GE319.out | refine bS ?_ GE342.out) | exact HB.out)⟩
             ·rw [if_neg c77] at H
              have c77b0 : (t384 == t367) = false := beq_eq_false_iff_ne.mpr c77
              have c77b1 : (t384 != t367) = true := bne_iff_ne.mpr c77
              exact noArm H HTRUE_.out
           ·replace c74 := Bool.eq_false_iff.mpr c74
            subst c74
            have H1 : (some false) = some r := by rw [if_neg (show ¬ (false = true) by decide)] at H; exact H
            clear H
            have H := H1
            clear H1
            exact noArm H HTRUE_.out
          ·rw [if_neg c69] at H
           have c69b0 : (t369 == t367) = false := beq_eq_false_iff_ne.mpr c69
           have c69b1 : (t369 != t367) = true := bne_iff_ne.mpr c69
           exact noArm H HTRUE_.out
     ·replace c27 := Bool.eq_false_iff.mpr c27
      subst c27
      have H1 : (some false) = some r := by rw [if_neg (show ¬ (false = true) by decide)] at H; exact H
      clear H
      have H := H1
      clear H1
      exact noArm H HTRUE_.out
    ·replace c24 := Bool.eq_false_iff.mpr c24
     subst c24
     have H1 : (some false) = some r := by rw [if_neg (show ¬ (false = true) by decide)] at H; exact H
     clear H
     have H := H1
     clear H1
     exact noArm H HTRUE_.out
   ·replace c21 := Bool.eq_false_iff.mpr c21
    subst c21
    have H1 : (some false) = some r := by rw [if_neg (show ¬ (false = true) by decide)] at H; exact H
    clear H
    have H := H1
    clear H1
    exact noArm H HTRUE_.out

def wf130 (x : S130) : Prop := (Lit.int .i64 x.f0).wf = true ∧ (Lit.int .i64 x.f1).wf = true ∧ (Lit.int .i64 x.f2).wf = true ∧ (Lit.int .i64 x.f3).wf = true
theorem op130 : Op.Opens Try.prog 130 k130 wf130 := Op.opens_mono (Op.opens_struct (fun x_ => ⟨x_.1, x_.2.1, x_.2.2.1, x_.2.2.2⟩) (fun _ => rfl) Try.underlying130 (by kernel_rfl) (Op.opensF_cons rfl (by kernel_rfl) (Op.opens_int Try.underlying3) (Op.opensF_cons rfl (by kernel_rfl) (Op.opens_int Try.underlying3) (Op.opensF_cons rfl (by kernel_rfl) (Op.opens_int Try.underlying3) (Op.opensF_last rfl (by kernel_rfl) (Op.opens_int Try.underlying3)))))) (fun _ h_ => h_)
def wf55 (x : S55) : Prop := (Lit.int .i64 x.f0).wf = true ∧ (Lit.int .i64 x.f1).wf = true ∧ (Lit.int .i64 x.f2).wf = true ∧ (Lit.int .i64 x.f3).wf = true ∧ ((x.f4).length ≤ maxLen ∧ ∀ y_12 ∈ (x.f4), wf130 y_12)
theorem op55 : Op.Opens Try.prog 55 k55 wf55 := Op.opens_mono (Op.opens_struct (fun x_ => ⟨x_.1, x_.2.1, x_.2.2.1, x_.2.2.2.1, x_.2.2.2.2⟩) (fun _ => rfl) Try.underlying55 (by kernel_rfl) (Op.opensF_cons rfl (by kernel_rfl) (Op.opens_int Try.underlying3) (Op.opensF_cons rfl (by kernel_rfl) (Op.opens_int Try.underlying3) (Op.opensF_cons rfl (by kernel_rfl) (Op.opens_int Try.underlying3) (Op.opensF_cons rfl (by kernel_rfl) (Op.opens_int Try.underlying3) (Op.opensF_last rfl (by kernel_rfl) (Op.opens_slice Try.underlying53 (by kernel_rfl) op130))))))) (fun _ h_ => h_)
def wf24 (x : S24) : Prop := ((x.f0).length ≤ maxLen ∧ ∀ y_7 ∈ (x.f0), (Lit.int .i64 y_7).wf = true) ∧ (Lit.int .i64 x.f1).wf = true ∧ (Lit.int .i64 x.f2).wf = true ∧ (Lit.int .i64 x.f3).wf = true ∧ (Lit.int .i64 x.f4).wf = true
theorem op24 : Op.Opens Try.prog 24 k24 wf24 := Op.opens_mono (Op.opens_struct (fun x_ => ⟨x_.1, x_.2.1, x_.2.2.1, x_.2.2.2.1, x_.2.2.2.2⟩) (fun _ => rfl) Try.underlying24 (by kernel_rfl) (Op.opensF_cons rfl (by kernel_rfl) (Op.opens_slice Try.underlying22 (by kernel_rfl) (Op.opens_int Try.underlying3)) (Op.opensF_cons rfl (by kernel_rfl) (Op.opens_int Try.underlying3) (Op.opensF_cons rfl (by kernel_rfl) (Op.opens_int Try.underlying3) (Op.opensF_cons rfl (by kernel_rfl) (Op.opens_int Try.underlying3) (Op.opensF_last rfl (by kernel_rfl) (Op.opens_int Try.underlying3))))))) (fun _ h_ => h_)
/-- The one pure statement of laws_FnExactLeftOf. -/
def laws_FnExactLeftOf.Pure : Prop := ∀ (a0_0 : Int) (a0_1 : Int) (a0_2 : Int) (a0_3 : Int) (l0_4 : List (S130)) (l1 : List (S24)), (Lit.int .i64 a0_0).wf = true → (Lit.int .i64 a0_1).wf = true → (Lit.int .i64 a0_2).wf = true → (Lit.int .i64 a0_3).wf = true → (l0_4.length ≤ maxLen ∧ ∀ y_12 ∈ l0_4, wf130 y_12) → (l1.length ≤ maxLen ∧ ∀ y_10 ∈ l1, wf24 y_10) → ∃ k, laws_FnExactLeftOf.f k a0_0 a0_1 a0_2 a0_3 l0_4 l1 = some true
theorem laws_FnExactLeftOf.walk (P : laws_FnExactLeftOf.Pure) (a0_0 : Int) (a0_1 : Int) (a0_2 : Int) (a0_3 : Int) (A0_4 : Option Addr) (c0_4 : Nat) (l0_4 : List (S130)) (A1 : Option Addr) (c1 : Nat) (l1 : List (S24)) (w : World) (hr0_4 : Kd.C k130 w A0_4 l0_4.length l0_4) (hc0_4 : l0_4.length ≤ c0_4) (hr1 : Kd.C k24 w A1 l1.length l1) (hc1 : l1.length ≤ c1) (qa0_0 : (Lit.int .i64 a0_0).wf = true) (qa0_1 : (Lit.int .i64 a0_1).wf = true) (qa0_2 : (Lit.int .i64 a0_2).wf = true) (qa0_3 : (Lit.int .i64 a0_3).wf = true) (ql0_4 : (l0_4.length ≤ maxLen ∧ ∀ y_12 ∈ l0_4, wf130 y_12)) (ql1 : (l1.length ≤ maxLen ∧ ∀ y_10 ∈ l1, wf24 y_10)) :
    Calls Try.prog 13 #[.agg #[.int .i64 a0_0, .int .i64 a0_1, .int .i64 a0_2, .int .i64 a0_3, .slice A0_4 l0_4.length c0_4], .slice A1 l1.length c1] w fun e w' => e = .returned (.bool true) ∧ Below w.heap.size w w' := by
  obtain ⟨k, h⟩ := P a0_0 a0_1 a0_2 a0_3 l0_4 l1 qa0_0 qa0_1 qa0_2 qa0_3 ql0_4 ql1
  refine (laws_FnExactLeftOf.calls k a0_0 a0_1 a0_2 a0_3 A0_4 c0_4 l0_4 A1 c1 l1 true w hr0_4 hc0_4 hr1 hc1 ⟨rfl⟩ h).mono ?_
  rintro e w' ⟨rfl, hd⟩
  exact ⟨rfl, hd⟩

theorem pure_LeftOf : laws_FnExactLeftOf.Pure := by
  intro p w h r l J _ _ _ _ hql hqc
  refine Ev.rounds (g := fun k => laws_FnExactLeftOf.f k p w h r l J) ?_
  unfold laws_FnExactLeftOf.f
  have hll := hql.1
  have hcl := hqc.1
  unfold maxLen at hll hcl
  refine evBind (evConst (szFrame_f p w h r l 1048576 (by omega) (by omega) hll)) (evIf (fun _ => Ev.now _) (fun hs => ?_))
  have hl : (l.length : Int) ≤ 1048576 := by
    by_cases h : 1048576 - (l.length : Int) < 0
    · rw [if_pos h] at hs; omega
    · omega
  rw [if_neg (by omega)]
  obtain ⟨s, hs1, hs2⟩ := szScanS_f J (1048576 - (l.length : Int)) (by omega) (by omega) hcl (fun x hx => by have := (hqc.2 x hx).1; unfold maxLen at this; omega)
  refine evBind hs1 (evIf (fun _ => Ev.now _) (fun hs3 => ?_))
  have h5 := hs2 (by omega)
  have hJ : J.length ≤ 1048576 := by omega
  have hJx : ∀ x ∈ J, x.f0.length ≤ 1048576 := fun x hx => by have := totC_mem hx; omega
  have hl2 : l.length ≤ 1048576 := by omega
  have hm : (l.map convC).length ≤ 1048576 := by rw [List.length_map]; exact hl2
  have hk : (J.map convS).length ≤ 1048576 := by rw [List.length_map]; exact hJ
  have hkx : ∀ x ∈ J.map convS, x.f0.length ≤ 1048576 := fun x hx => by
    obtain ⟨y, hy, rfl⟩ := List.mem_map.1 hx
    exact hJx y hy
  have TF := toFrame_f p w h r l hl2
  have TS := toScanS_f J hJ hJx
  have F1 := sLeftOf_f (J.map convS) hk hkx p w h r (l.map convC) hm
  have F2 := iLeftOf_f (J.map convS) hk hkx p w h r (l.map convC) hm
  obtain ⟨hn, hx⟩ := leftI_inv p w h r (l.map convC) hm (J.map convS)
  have htS := totS_le (J.map convS) hkx
  generalize (leftI p w h r (l.map convC) (J.map convS)).1 = g at F1 F2 hn hx
  generalize l.map convC = lc at *
  generalize J.map convS = Jc at *
  have htot := tot_le g (fun x hm => Nat.le_of_eq (hx x hm))
  have hmul : Jc.length * 1048576 ≤ 1048576 * 1048576 := Nat.mul_le_mul_right _ hk
  have ES := eqIntSS_f g (by omega) (fun x hm => by have := hx x hm; omega)
  have MS := markIntSS_g g 1 (by omega) (by omega) (by omega)
  have HS := heldIntSS_g g 1 (by omega) (by omega) (by omega)
  have EF := eqFrame_f p w h r lc (by omega)
  have EC := eqScanS_f Jc (by omega) (fun x hx => by have := hkx x hx; omega)
  have MF := markFrame_f p w h r lc 1 (by omega) (by omega)
  obtain ⟨mk, hmk, hmk2⟩ := markScanS_f Jc (1 + 4 * (lc.length : Int)) hk (by omega) (by omega)
  refine evBind TF (evBind TS (evBind F1 (evBind TF (evBind TS (evBind F2 (evBind ES (evPos rfl (evBind TF (evBind EF (evPos rfl (evBind TS (evBind EC (evPos rfl (evBind MF (evBind hmk (evNeg (by omega) (evBind ES ?_)))))))))))))))))
  refine Ev.step (fun k => by rw [laws_FnExactLeftOf.j0]) (evNeg (by simp) (evBind MS (evBind HS (evNeg (show ¬ (1 + (tot g : Int) < 0) by omega) (evPos rfl ?_)))))
  refine evBind TF (evBind TS (evBind F2 (evBind ES (evPos rfl (evBind HS (evNeg (show ¬ (1 + (tot g : Int) < 0) by omega) (evPos rfl (Ev.now _))))))))

end Go.Proofs.Ythajjjpblkhmmaa.CL
