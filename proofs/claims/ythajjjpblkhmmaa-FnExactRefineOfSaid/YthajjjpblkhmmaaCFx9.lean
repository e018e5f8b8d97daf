/- Functions that a law of this seat reaches: written by a program of this session (wip/xprint.py), and by hand. -/
import Derived.Test.YthajjjpblkhmmaaCFx0
import Derived.Test.YthajjjpblkhmmaaCFx1
import Derived.Test.YthajjjpblkhmmaaCFx2
import Derived.Test.YthajjjpblkhmmaaCFx4
import Derived.Test.YthajjjpblkhmmaaCFx5
import Derived.Test.YthajjjpblkhmmaaCFx7
import Derived.Test.YthajjjpblkhmmaaCFx8
namespace Go.Proofs.Ythajjjpblkhmmaa.CF
open Go.RowKit Go.Proofs.Ythajjjpblkhmmaa.B Go.Proofs.YthajjjpblkhmmaaW.PrintWords Go.Proofs.YthajjjpblkhmmaaW.PrintLast Go.Proofs.YthajjjpblkhmmaaW.PrintMore
attribute [local go_sem] max2_int min2_int max_two min_two max_three min_three max_four min_four   -- for this text's walks alone
set_option linter.unusedVariables false
set_option linter.unusedSimpArgs false

/-! ### laws_FnExactRefineOf: function 5 -/
def laws_FnExactRefineOf.j0 : Nat → List Int → List Int → List Int → Bool → List Int → Int → Int → Int → Int → Option (Bool)
  | 0, _, _, _, _, _, _, _, _, _ => none
  | k + 1, x0, x6, x9, x61, x313000, x313001, x313002, x313003, x313004 => if x61 = true then (some false) else ((laws_markIntS.f k x9 1).bind fun bt359 => ((laws_heldIntS.f k bt359.2 1).bind fun t361 => (if t361 < 0 then (some false) else (if t361 = bt359.1 then ((laws_toIntS.f k x0).bind fun t362 => ((laws_toScan.f k x313000 x313001 x313002 x313003 x313004).bind fun bt365 => ((impl_RefineOf.f k t362 bt365.1 bt365.2.1 bt365.2.2.1 bt365.2.2.2.1 bt365.2.2.2.2).bind fun t372 => ((laws_eqIntS.f k t372 x6).bind fun t375 => (if t375 = true then ((laws_heldIntS.f k bt359.2 1).bind fun t376 => (if t376 < 0 then (some false) else (if t376 = bt359.1 then (some true) else (some false)))) else (some false)))))) else (some false)))))
def laws_FnExactRefineOf.f (k : Nat) (l0 : List Int) (l1_0 : List Int) (a1_1 : Int) (a1_2 : Int) (a1_3 : Int) (a1_4 : Int) : Option (Bool) := if (l0.length : Int) > 1048576 then (some true) else ((laws_szScan.f l1_0 a1_1 a1_2 a1_3 a1_4 1048576).bind fun t313 => (if t313 < 0 then (some true) else ((laws_toIntS.f k l0).bind fun t314 => ((laws_toScan.f k l1_0 a1_1 a1_2 a1_3 a1_4).bind fun bt317 => ((spec_RefineOf.f k t314 bt317.1 bt317.2.1 bt317.2.2.1 bt317.2.2.2.1 bt317.2.2.2.2).bind fun t324 => ((laws_toIntS.f k l0).bind fun t327 => ((laws_toScan.f k l1_0 a1_1 a1_2 a1_3 a1_4).bind fun bt330 => ((impl_RefineOf.f k t327 bt330.1 bt330.2.1 bt330.2.2.1 bt330.2.2.2.1 bt330.2.2.2.2).bind fun t338 => ((laws_eqIntS.f k t338 t324).bind fun t341 => (if t341 = true then ((laws_toIntS.f k l0).bind fun t342 => ((laws_eqIntS.f k t327 t342).bind fun t345 => (if t345 = true then ((laws_toScan.f k l1_0 a1_1 a1_2 a1_3 a1_4).bind fun bt346 => ((laws_eqScan.f k bt330.1 bt330.2.1 bt330.2.2.1 bt330.2.2.2.1 bt330.2.2.2.2 bt346.1 bt346.2.1 bt346.2.2.1 bt346.2.2.2.1 bt346.2.2.2.2).bind fun t353 => (if t353 = true then ((laws_markIntS.f k t327 1).bind fun bt354 => ((laws_markScan.f k bt330.1 bt330.2.1 bt330.2.2.1 bt330.2.2.2.1 bt330.2.2.2.2 bt354.1).bind fun bt356 => (if bt356.1 < 0 then (laws_FnExactRefineOf.j0 k l0 t324 t338 true l1_0 a1_1 a1_2 a1_3 a1_4) else ((laws_eqIntS.f k t338 t324).bind fun t358 => (laws_FnExactRefineOf.j0 k l0 t324 t338 (!t358) l1_0 a1_1 a1_2 a1_3 a1_4))))) else (some false)))) else (some false)))) else (some false)))))))))))
theorem laws_FnExactRefineOf.mono_l : ∀ k, (∀ y0 y1 y2 y3 y4 y5 y6 y7 y8, LeO (laws_FnExactRefineOf.j0 k y0 y1 y2 y3 y4 y5 y6 y7 y8) (laws_FnExactRefineOf.j0 (k + 1) y0 y1 y2 y3 y4 y5 y6 y7 y8))
  | 0 => fun _ _ _ _ _ _ _ _ _ r h => by simp [laws_FnExactRefineOf.j0] at h
  | k + 1 => by
    have ih0 := laws_FnExactRefineOf.mono_l k
    · intro y0 y1 y2 y3 y4 y5 y6 y7 y8
      unfold laws_FnExactRefineOf.j0
      repeat' first
      | (with_reducible exact ih0 _ _ _ _ _ _ _ _ _)
      | (with_reducible exact impl_RefineOf.mono _ _ _ _ _ _ _)
      | (with_reducible exact laws_eqIntS.mono _ _ _)
      | (with_reducible exact laws_eqScan.mono _ _ _ _ _ _ _ _ _ _ _)
      | (with_reducible exact laws_heldIntS.mono _ _ _)
      | (with_reducible exact laws_markIntS.mono _ _ _)
      | (with_reducible exact laws_markScan.mono _ _ _ _ _ _ _)
      | (with_reducible exact laws_toIntS.mono _ _)
      | (with_reducible exact laws_toScan.mono _ _ _ _ _ _)
      | (with_reducible exact spec_RefineOf.mono _ _ _ _ _ _ _)
      | (with_reducible exact LeO.refl _)
      | (with_reducible exact LeO.none _)
      | (with_reducible refine LeO.ite ?_ ?_)
      | (with_reducible refine LeO.bind ?_ (fun _ => ?_))
      | exact ih0 _ _ _ _ _ _ _ _ _
      | exact impl_RefineOf.mono _ _ _ _ _ _ _
      | exact laws_eqIntS.mono _ _ _
      | exact laws_eqScan.mono _ _ _ _ _ _ _ _ _ _ _
      | exact laws_heldIntS.mono _ _ _
      | exact laws_markIntS.mono _ _ _
      | exact laws_markScan.mono _ _ _ _ _ _ _
      | exact laws_toIntS.mono _ _
      | exact laws_toScan.mono _ _ _ _ _ _
      | exact spec_RefineOf.mono _ _ _ _ _ _ _
      | exact LeO.none _
      | refine LeO.ite ?_ ?_
      | refine LeO.bind ?_ (fun _ => ?_)
theorem laws_FnExactRefineOf.mono : ∀ a0 a1 a2 a3 a4 a5 k, LeO (laws_FnExactRefineOf.f k a0 a1 a2 a3 a4 a5) (laws_FnExactRefineOf.f (k + 1) a0 a1 a2 a3 a4 a5) := by
  intro a0 a1 a2 a3 a4 a5 k
  have ih0 := laws_FnExactRefineOf.mono_l k
  unfold laws_FnExactRefineOf.f
  repeat' first
      | (with_reducible exact ih0 _ _ _ _ _ _ _ _ _)
      | (with_reducible exact impl_RefineOf.mono _ _ _ _ _ _ _)
      | (with_reducible exact laws_eqIntS.mono _ _ _)
      | (with_reducible exact laws_eqScan.mono _ _ _ _ _ _ _ _ _ _ _)
      | (with_reducible exact laws_heldIntS.mono _ _ _)
      | (with_reducible exact laws_markIntS.mono _ _ _)
      | (with_reducible exact laws_markScan.mono _ _ _ _ _ _ _)
      | (with_reducible exact laws_toIntS.mono _ _)
      | (with_reducible exact laws_toScan.mono _ _ _ _ _ _)
      | (with_reducible exact spec_RefineOf.mono _ _ _ _ _ _ _)
      | (with_reducible exact LeO.refl _)
      | (with_reducible exact LeO.none _)
      | (with_reducible refine LeO.ite ?_ ?_)
      | (with_reducible refine LeO.bind ?_ (fun _ => ?_))
      | exact ih0 _ _ _ _ _ _ _ _ _
      | exact impl_RefineOf.mono _ _ _ _ _ _ _
      | exact laws_eqIntS.mono _ _ _
      | exact laws_eqScan.mono _ _ _ _ _ _ _ _ _ _ _
      | exact laws_heldIntS.mono _ _ _
      | exact laws_markIntS.mono _ _ _
      | exact laws_markScan.mono _ _ _ _ _ _ _
      | exact laws_toIntS.mono _ _
      | exact laws_toScan.mono _ _ _ _ _ _
      | exact spec_RefineOf.mono _ _ _ _ _ _ _
      | exact LeO.none _
      | refine LeO.ite ?_ ?_
      | refine LeO.bind ?_ (fun _ => ?_)
set_option maxHeartbeats 8000000 in
set_option maxRecDepth 100000 in
theorem laws_FnExactRefineOf.calls (k : Nat) (A0 : Option Addr) (c0 : Nat) (l0 : List Int) (A1_0 : Option Addr) (c1_0 : Nat) (l1_0 : List Int) (a1_1 : Int) (a1_2 : Int) (a1_3 : Int) (a1_4 : Int) (r : Bool) (w : World) (hr0 : Kd.C (Kd.int .i64) w A0 l0.length l0) (hc0 : l0.length ≤ c0) (hr1_0 : Kd.C (Kd.int .i64) w A1_0 l1_0.length l1_0) (hc1_0 : l1_0.length ≤ c1_0) (HT_ : Aside0 (r = true)) (h : laws_FnExactRefineOf.f k l0 l1_0 a1_1 a1_2 a1_3 a1_4 = some r) :
    Calls Try.prog 5 #[.slice A0 l0.length c0, .agg #[.slice A1_0 l1_0.length c1_0, .int .i64 a1_1, .int .i64 a1_2, .int .i64 a1_3, .int .i64 a1_4]] w fun e w' => e = .returned (.bool r) ∧ Below w.heap.size w w' := by
  have hu24 := Try.underlying24
  have hu28 := Try.underlying28
  have HR0 := Aside0.mk hr0
  have HC0 := Aside0.mk hc0
  clear hr0 hc0
  have HR1_0 := Aside0.mk hr1_0
  have HC1_0 := Aside0.mk hc1_0
  clear hr1_0 hc1_0
  have HB := Aside0.mk (Below.refl w.heap.size w)
  have H : (if (l0.length : Int) > 1048576 then (some true) else ((laws_szScan.f l1_0 a1_1 a1_2 a1_3 a1_4 1048576).bind fun t313 => (if t313 < 0 then (some true) else ((laws_toIntS.f k l0).bind fun t314 => ((laws_toScan.f k l1_0 a1_1 a1_2 a1_3 a1_4).bind fun bt317 => ((spec_RefineOf.f k t314 bt317.1 bt317.2.1 bt317.2.2.1 bt317.2.2.2.1 bt317.2.2.2.2).bind fun t324 => ((laws_toIntS.f k l0).bind fun t327 => ((laws_toScan.f k l1_0 a1_1 a1_2 a1_3 a1_4).bind fun bt330 => ((impl_RefineOf.f k t327 bt330.1 bt330.2.1 bt330.2.2.1 bt330.2.2.2.1 bt330.2.2.2.2).bind fun t338 => ((laws_eqIntS.f k t338 t324).bind fun t341 => (if t341 = true then ((laws_toIntS.f k l0).bind fun t342 => ((laws_eqIntS.f k t327 t342).bind fun t345 => (if t345 = true then ((laws_toScan.f k l1_0 a1_1 a1_2 a1_3 a1_4).bind fun bt346 => ((laws_eqScan.f k bt330.1 bt330.2.1 bt330.2.2.1 bt330.2.2.2.1 bt330.2.2.2.2 bt346.1 bt346.2.1 bt346.2.2.1 bt346.2.2.2.1 bt346.2.2.2.2).bind fun t353 => (if t353 = true then ((laws_markIntS.f k t327 1).bind fun bt354 => ((laws_markScan.f k bt330.1 bt330.2.1 bt330.2.2.1 bt330.2.2.2.1 bt330.2.2.2.2 bt354.1).bind fun bt356 => (if bt356.1 < 0 then (laws_FnExactRefineOf.j0 k l0 t324 t338 true l1_0 a1_1 a1_2 a1_3 a1_4) else ((laws_eqIntS.f k t338 t324).bind fun t358 => (laws_FnExactRefineOf.j0 k l0 t324 t338 (!t358) l1_0 a1_1 a1_2 a1_3 a1_4))))) else (some false)))) else (some false)))) else (some false)))))))))))) = some r := h
  clear h
  by_cases c3 : (l0.length : Int) > 1048576
  · rw [if_pos c3] at H
    have c3b0 : decide (1048576 < (l0.length : Int)) = true := decide_eq_true c3
    have c3b1 : decide (1048576 < l0.length) = true := decide_eq_true (by omega)
    clear c3
    obtain rfl := Option.some.inj H
    go_enter Try.func5, Try.ntmps5
    go_wp2_with (first | ((with_reducible refine gate_dst (N := 3) rfl ?_); refine box_event ?hg (N := 3) ?hd (cs := #[.slice A1_0 l1_0.length c1_0, .int .i64 a1_1, .int .i64 a1_2, .int .i64 a1_3, .int .i64 a1_4]) (t := 24) ?hr ?_; (case hd => rfl); (case hg => rfl); (case hr => first | (go_simp; done) | (go_simp; rfl)); intro gb312 hg w4 hbox hb; have n0_ := Aside0.mk (below_step (by repeat (first | (with_reducible first | exact HB.out | apply below_alloc | apply pw_below_drewN | apply below_drew1) | exact HB.out)) hb); have n1_ := Aside0.mk (hbox); have n2_ := Aside0.mk ((by rw [hg]; exact (below_size (by repeat (first | (with_reducible first | exact HB.out | apply below_alloc | apply pw_below_drewN | apply below_drew1) | exact HB.out))) : w.heap.size ≤ gb312)); have n3_ := Aside0.mk ((by rw [hg]; exact (below_size (by repeat (first | (with_reducible first | exact HB.out | apply below_alloc | apply pw_below_drewN | apply below_drew1) | exact HB.out))) : w.heap.size ≤ gb312)); clear HB; have HB := n0_; have BK312 := n1_; have GW312 := n2_; have GE312 := n3_; clear n0_ n1_ n2_ n3_; clear hb hbox hg))
    go_ret
    exact ⟨by first | rfl | (simp [errW_none, errW_some] <;> rfl) | (simp [*, errW_none, errW_some] <;> rfl), by repeat (first | (with_reducible first | exact HB.out | apply below_alloc | apply pw_below_drewN | apply below_drew1 | refine below_set ?_ GE312.out) | exact HB.out)⟩
  · rw [if_neg c3] at H
    have c3b0 : decide (1048576 < (l0.length : Int)) = false := decide_eq_false c3
    have c3b1 : decide (1048576 < l0.length) = false := decide_eq_false (by omega)
    clear c3
    replace H := Option.bind_eq_some_iff.mp H
    obtain ⟨t313, A50, H⟩ := H
    replace H : (if t313 < 0 then (some true) else ((laws_toIntS.f k l0).bind fun t314 => ((laws_toScan.f k l1_0 a1_1 a1_2 a1_3 a1_4).bind fun bt317 => ((spec_RefineOf.f k t314 bt317.1 bt317.2.1 bt317.2.2.1 bt317.2.2.2.1 bt317.2.2.2.2).bind fun t324 => ((laws_toIntS.f k l0).bind fun t327 => ((laws_toScan.f k l1_0 a1_1 a1_2 a1_3 a1_4).bind fun bt330 => ((impl_RefineOf.f k t327 bt330.1 bt330.2.1 bt330.2.2.1 bt330.2.2.2.1 bt330.2.2.2.2).bind fun t338 => ((laws_eqIntS.f k t338 t324).bind fun t341 => (if t341 = true then ((laws_toIntS.f k l0).bind fun t342 => ((laws_eqIntS.f k t327 t342).bind fun t345 => (if t345 = true then ((laws_toScan.f k l1_0 a1_1 a1_2 a1_3 a1_4).bind fun bt346 => ((laws_eqScan.f k bt330.1 bt330.2.1 bt330.2.2.1 bt330.2.2.2.1 bt330.2.2.2.2 bt346.1 bt346.2.1 bt346.2.2.1 bt346.2.2.2.1 bt346.2.2.2.2).bind fun t353 => (if t353 = true then ((laws_markIntS.f k t327 1).bind fun bt354 => ((laws_markScan.f k bt330.1 bt330.2.1 bt330.2.2.1 bt330.2.2.2.1 bt330.2.2.2.2 bt354.1).bind fun bt356 => (if bt356.1 < 0 then (laws_FnExactRefineOf.j0 k l0 t324 t338 true l1_0 a1_1 a1_2 a1_3 a1_4) else ((laws_eqIntS.f k t338 t324).bind fun t358 => (laws_FnExactRefineOf.j0 k l0 t324 t338 (!t358) l1_0 a1_1 a1_2 a1_3 a1_4))))) else (some false)))) else (some false)))) else (some false)))))))))) = some r := H
    have A5 := Aside0.mk A50
    clear A50
    by_cases c6 : t313 < 0
    · rw [if_pos c6] at H
      have c6b0 : decide (t313 < 0) = true := decide_eq_true c6
      clear c6
      obtain rfl := Option.some.inj H
      go_enter Try.func5, Try.ntmps5
      go_wp2_with (first | ((with_reducible refine gate_dst (N := 3) rfl ?_); refine box_event ?hg (N := 3) ?hd (cs := #[.slice A1_0 l1_0.length c1_0, .int .i64 a1_1, .int .i64 a1_2, .int .i64 a1_3, .int .i64 a1_4]) (t := 24) ?hr ?_; (case hd => rfl); (case hg => rfl); (case hr => first | (go_simp; done) | (go_simp; rfl)); intro gb312 hg w7 hbox hb; have n0_ := Aside0.mk (below_step (by repeat (first | (with_reducible first | exact HB.out | apply below_alloc | apply pw_below_drewN | apply below_drew1) | exact HB.out)) hb); have n1_ := Aside0.mk (hbox); have n2_ := Aside0.mk ((by rw [hg]; exact (below_size (by repeat (first | (with_reducible first | exact HB.out | apply below_alloc | apply pw_below_drewN | apply below_drew1) | exact HB.out))) : w.heap.size ≤ gb312)); have n3_ := Aside0.mk ((by rw [hg]; exact (below_size (by repeat (first | (with_reducible first | exact HB.out | apply below_alloc | apply pw_below_drewN | apply below_drew1) | exact HB.out))) : w.heap.size ≤ gb312)); clear HB; have HB := n0_; have BK312 := n1_; have GW312 := n2_; have GE312 := n3_; clear n0_ n1_ n2_ n3_; clear hb hbox hg; have hcz8_0 : w7.cell? ⟨gb312, 0, none⟩ = some (.slice A1_0 l1_0.length c1_0) := (blk_cell BK312.out 0).trans rfl; have hcz8_1 : w7.cell? ⟨gb312, 1, none⟩ = some (.int .i64 a1_1) := (blk_cell BK312.out 1).trans rfl; have hcz8_2 : w7.cell? ⟨gb312, 2, none⟩ = some (.int .i64 a1_2) := (blk_cell BK312.out 2).trans rfl; have hcz8_3 : w7.cell? ⟨gb312, 3, none⟩ = some (.int .i64 a1_3) := (blk_cell BK312.out 3).trans rfl; have hcz8_4 : w7.cell? ⟨gb312, 4, none⟩ = some (.int .i64 a1_4) := (blk_cell BK312.out 4).trans rfl; have hfz8_0 := blk_frozen BK312.out 0; have hfz8_1 := blk_frozen BK312.out 1; have hfz8_2 := blk_frozen BK312.out 2; have hfz8_3 := blk_frozen BK312.out 3; have hfz8_4 := blk_frozen BK312.out 4) | ((with_reducible refine gate_callee (f := 15) rfl ?_); refine goesL_ (some 19) rfl rfl Try.func15 (by kernel_rfl) rfl #[.agg #[.slice A1_0 l1_0.length c1_0, .int .i64 a1_1, .int .i64 a1_2, .int .i64 a1_3, .int .i64 a1_4], .int .i64 1048576] rfl (by (try simp only [List.map_toArray, List.map_cons, List.map_nil]); first | done | rfl | (simp only [List.length_drop, List.length_take]; rfl)) ?_; (with_reducible refine (laws_szScan.calls _ _ l1_0 a1_1 a1_2 a1_3 a1_4 1048576 t313 _ ?side1 ?side2 A5.out).mono ?_); (case side1 => repeat (first | exact (Kd.C_below HR1_0.out HB.out) | (with_reducible refine Kd.C_alloc ?_ _) | (with_reducible refine Kd.C_drewN ?_ _) | (with_reducible refine Kd.C_drew ?_))); (case side2 => exact HC1_0.out); rintro e w9 ⟨rfl, hb⟩; refine ⟨_, rfl, ?_⟩; have n0_ := Aside0.mk (blk_below (g := gb312) (o := .cells #[.slice A1_0 l1_0.length c1_0, .int .i64 a1_1, .int .i64 a1_2, .int .i64 a1_3, .int .i64 a1_4] 24 (0, 0)) (by (with_reducible repeat (first | refine blk_drewN ?_ _ | refine blk_drew ?_ | refine blk_alloc ?_ _)); exact BK312.out) hb); have n1_ := Aside0.mk (below_step (by repeat (first | (with_reducible first | exact HB.out | apply below_alloc | apply pw_below_drewN | apply below_drew1 | refine below_set ?_ GE312.out) | exact HB.out)) hb); clear BK312; clear HB; have BK312 := n0_; have HB := n1_; clear n0_ n1_; (try clear hb); (try clear hb2); (try clear hk); (try clear hi)))
      go_ret
      exact ⟨by first | rfl | (simp [errW_none, errW_some] <;> rfl) | (simp [*, errW_none, errW_some] <;> rfl), by repeat (first | (with_reducible first | exact HB.out | apply below_alloc | apply pw_below_drewN | apply below_drew1 | refine below_set ?_ GE312.out) | exact HB.out)⟩
    · rw [if_neg c6] at H
      have c6b0 : decide (t313 < 0) = false := decide_eq_false c6
      clear c6
      replace H := Option.bind_eq_some_iff.mp H
      obtain ⟨t314, A100, H⟩ := H
      replace H : ((laws_toScan.f k l1_0 a1_1 a1_2 a1_3 a1_4).bind fun bt317 => ((spec_RefineOf.f k t314 bt317.1 bt317.2.1 bt317.2.2.1 bt317.2.2.2.1 bt317.2.2.2.2).bind fun t324 => ((laws_toIntS.f k l0).bind fun t327 => ((laws_toScan.f k l1_0 a1_1 a1_2 a1_3 a1_4).bind fun bt330 => ((impl_RefineOf.f k t327 bt330.1 bt330.2.1 bt330.2.2.1 bt330.2.2.2.1 bt330.2.2.2.2).bind fun t338 => ((laws_eqIntS.f k t338 t324).bind fun t341 => (if t341 = true then ((laws_toIntS.f k l0).bind fun t342 => ((laws_eqIntS.f k t327 t342).bind fun t345 => (if t345 = true then ((laws_toScan.f k l1_0 a1_1 a1_2 a1_3 a1_4).bind fun bt346 => ((laws_eqScan.f k bt330.1 bt330.2.1 bt330.2.2.1 bt330.2.2.2.1 bt330.2.2.2.2 bt346.1 bt346.2.1 bt346.2.2.1 bt346.2.2.2.1 bt346.2.2.2.2).bind fun t353 => (if t353 = true then ((laws_markIntS.f k t327 1).bind fun bt354 => ((laws_markScan.f k bt330.1 bt330.2.1 bt330.2.2.1 bt330.2.2.2.1 bt330.2.2.2.2 bt354.1).bind fun bt356 => (if bt356.1 < 0 then (laws_FnExactRefineOf.j0 k l0 t324 t338 true l1_0 a1_1 a1_2 a1_3 a1_4) else ((laws_eqIntS.f k t338 t324).bind fun t358 => (laws_FnExactRefineOf.j0 k l0 t324 t338 (!t358) l1_0 a1_1 a1_2 a1_3 a1_4))))) else (some false)))) else (some false)))) else (some false)))))))) = some r := H
      have A10 := Aside0.mk A100
      clear A100
      replace H := Option.bind_eq_some_iff.mp H
      obtain ⟨⟨t317, t320, t321, t322, t323⟩, A110, H⟩ := H
      replace H : ((spec_RefineOf.f k t314 t317 t320 t321 t322 t323).bind fun t324 => ((laws_toIntS.f k l0).bind fun t327 => ((laws_toScan.f k l1_0 a1_1 a1_2 a1_3 a1_4).bind fun bt330 => ((impl_RefineOf.f k t327 bt330.1 bt330.2.1 bt330.2.2.1 bt330.2.2.2.1 bt330.2.2.2.2).bind fun t338 => ((laws_eqIntS.f k t338 t324).bind fun t341 => (if t341 = true then ((laws_toIntS.f k l0).bind fun t342 => ((laws_eqIntS.f k t327 t342).bind fun t345 => (if t345 = true then ((laws_toScan.f k l1_0 a1_1 a1_2 a1_3 a1_4).bind fun bt346 => ((laws_eqScan.f k bt330.1 bt330.2.1 bt330.2.2.1 bt330.2.2.2.1 bt330.2.2.2.2 bt346.1 bt346.2.1 bt346.2.2.1 bt346.2.2.2.1 bt346.2.2.2.2).bind fun t353 => (if t353 = true then ((laws_markIntS.f k t327 1).bind fun bt354 => ((laws_markScan.f k bt330.1 bt330.2.1 bt330.2.2.1 bt330.2.2.2.1 bt330.2.2.2.2 bt354.1).bind fun bt356 => (if bt356.1 < 0 then (laws_FnExactRefineOf.j0 k l0 t324 t338 true l1_0 a1_1 a1_2 a1_3 a1_4) else ((laws_eqIntS.f k t338 t324).bind fun t358 => (laws_FnExactRefineOf.j0 k l0 t324 t338 (!t358) l1_0 a1_1 a1_2 a1_3 a1_4))))) else (some false)))) else (some false)))) else (some false))))))) = some r := H
      have A11 := Aside0.mk A110
      clear A110
      replace H := Option.bind_eq_some_iff.mp H
      obtain ⟨t324, A120, H⟩ := H
      replace H : ((laws_toIntS.f k l0).bind fun t327 => ((laws_toScan.f k l1_0 a1_1 a1_2 a1_3 a1_4).bind fun bt330 => ((impl_RefineOf.f k t327 bt330.1 bt330.2.1 bt330.2.2.1 bt330.2.2.2.1 bt330.2.2.2.2).bind fun t338 => ((laws_eqIntS.f k t338 t324).bind fun t341 => (if t341 = true then ((laws_toIntS.f k l0).bind fun t342 => ((laws_eqIntS.f k t327 t342).bind fun t345 => (if t345 = true then ((laws_toScan.f k l1_0 a1_1 a1_2 a1_3 a1_4).bind fun bt346 => ((laws_eqScan.f k bt330.1 bt330.2.1 bt330.2.2.1 bt330.2.2.2.1 bt330.2.2.2.2 bt346.1 bt346.2.1 bt346.2.2.1 bt346.2.2.2.1 bt346.2.2.2.2).bind fun t353 => (if t353 = true then ((laws_markIntS.f k t327 1).bind fun bt354 => ((laws_markScan.f k bt330.1 bt330.2.1 bt330.2.2.1 bt330.2.2.2.1 bt330.2.2.2.2 bt354.1).bind fun bt356 => (if bt356.1 < 0 then (laws_FnExactRefineOf.j0 k l0 t324 t338 true l1_0 a1_1 a1_2 a1_3 a1_4) else ((laws_eqIntS.f k t338 t324).bind fun t358 => (laws_FnExactRefineOf.j0 k l0 t324 t338 (!t358) l1_0 a1_1 a1_2 a1_3 a1_4))))) else (some false)))) else (some false)))) else (some false)))))) = some r := H
      have A12 := Aside0.mk A120
      clear A120
      replace H := Option.bind_eq_some_iff.mp H
      obtain ⟨t327, A130, H⟩ := H
      replace H : ((laws_toScan.f k l1_0 a1_1 a1_2 a1_3 a1_4).bind fun bt330 => ((impl_RefineOf.f k t327 bt330.1 bt330.2.1 bt330.2.2.1 bt330.2.2.2.1 bt330.2.2.2.2).bind fun t338 => ((laws_eqIntS.f k t338 t324).bind fun t341 => (if t341 = true then ((laws_toIntS.f k l0).bind fun t342 => ((laws_eqIntS.f k t327 t342).bind fun t345 => (if t345 = true then ((laws_toScan.f k l1_0 a1_1 a1_2 a1_3 a1_4).bind fun bt346 => ((laws_eqScan.f k bt330.1 bt330.2.1 bt330.2.2.1 bt330.2.2.2.1 bt330.2.2.2.2 bt346.1 bt346.2.1 bt346.2.2.1 bt346.2.2.2.1 bt346.2.2.2.2).bind fun t353 => (if t353 = true then ((laws_markIntS.f k t327 1).bind fun bt354 => ((laws_markScan.f k bt330.1 bt330.2.1 bt330.2.2.1 bt330.2.2.2.1 bt330.2.2.2.2 bt354.1).bind fun bt356 => (if bt356.1 < 0 then (laws_FnExactRefineOf.j0 k l0 t324 t338 true l1_0 a1_1 a1_2 a1_3 a1_4) else ((laws_eqIntS.f k t338 t324).bind fun t358 => (laws_FnExactRefineOf.j0 k l0 t324 t338 (!t358) l1_0 a1_1 a1_2 a1_3 a1_4))))) else (some false)))) else (some false)))) else (some false))))) = some r := H
      have A13 := Aside0.mk A130
      clear A130
      replace H := Option.bind_eq_some_iff.mp H
      obtain ⟨⟨t330, t333, t334, t335, t336⟩, A140, H⟩ := H
      replace H : ((impl_RefineOf.f k t327 t330 t333 t334 t335 t336).bind fun t338 => ((laws_eqIntS.f k t338 t324).bind fun t341 => (if t341 = true then ((laws_toIntS.f k l0).bind fun t342 => ((laws_eqIntS.f k t327 t342).bind fun t345 => (if t345 = true then ((laws_toScan.f k l1_0 a1_1 a1_2 a1_3 a1_4).bind fun bt346 => ((laws_eqScan.f k t330 t333 t334 t335 t336 bt346.1 bt346.2.1 bt346.2.2.1 bt346.2.2.2.1 bt346.2.2.2.2).bind fun t353 => (if t353 = true then ((laws_markIntS.f k t327 1).bind fun bt354 => ((laws_markScan.f k t330 t333 t334 t335 t336 bt354.1).bind fun bt356 => (if bt356.1 < 0 then (laws_FnExactRefineOf.j0 k l0 t324 t338 true l1_0 a1_1 a1_2 a1_3 a1_4) else ((laws_eqIntS.f k t338 t324).bind fun t358 => (laws_FnExactRefineOf.j0 k l0 t324 t338 (!t358) l1_0 a1_1 a1_2 a1_3 a1_4))))) else (some false)))) else (some false)))) else (some false)))) = some r := H
      have A14 := Aside0.mk A140
      clear A140
      replace H := Option.bind_eq_some_iff.mp H
      obtain ⟨t338, A150, H⟩ := H
      replace H : ((laws_eqIntS.f k t338 t324).bind fun t341 => (if t341 = true then ((laws_toIntS.f k l0).bind fun t342 => ((laws_eqIntS.f k t327 t342).bind fun t345 => (if t345 = true then ((laws_toScan.f k l1_0 a1_1 a1_2 a1_3 a1_4).bind fun bt346 => ((laws_eqScan.f k t330 t333 t334 t335 t336 bt346.1 bt346.2.1 bt346.2.2.1 bt346.2.2.2.1 bt346.2.2.2.2).bind fun t353 => (if t353 = true then ((laws_markIntS.f k t327 1).bind fun bt354 => ((laws_markScan.f k t330 t333 t334 t335 t336 bt354.1).bind fun bt356 => (if bt356.1 < 0 then (laws_FnExactRefineOf.j0 k l0 t324 t338 true l1_0 a1_1 a1_2 a1_3 a1_4) else ((laws_eqIntS.f k t338 t324).bind fun t358 => (laws_FnExactRefineOf.j0 k l0 t324 t338 (!t358) l1_0 a1_1 a1_2 a1_3 a1_4))))) else (some false)))) else (some false)))) else (some false))) = some r := H
      have A15 := Aside0.mk A150
      clear A150
      replace H := Option.bind_eq_some_iff.mp H
      obtain ⟨t341, A160, H⟩ := H
      replace H : (if t341 = true then ((laws_toIntS.f k l0).bind fun t342 => ((laws_eqIntS.f k t327 t342).bind fun t345 => (if t345 = true then ((laws_toScan.f k l1_0 a1_1 a1_2 a1_3 a1_4).bind fun bt346 => ((laws_eqScan.f k t330 t333 t334 t335 t336 bt346.1 bt346.2.1 bt346.2.2.1 bt346.2.2.2.1 bt346.2.2.2.2).bind fun t353 => (if t353 = true then ((laws_markIntS.f k t327 1).bind fun bt354 => ((laws_markScan.f k t330 t333 t334 t335 t336 bt354.1).bind fun bt356 => (if bt356.1 < 0 then (laws_FnExactRefineOf.j0 k l0 t324 t338 true l1_0 a1_1 a1_2 a1_3 a1_4) else ((laws_eqIntS.f k t338 t324).bind fun t358 => (laws_FnExactRefineOf.j0 k l0 t324 t338 (!t358) l1_0 a1_1 a1_2 a1_3 a1_4))))) else (some false)))) else (some false)))) else (some false)) = some r := H
      have A16 := Aside0.mk A160
      clear A160
      by_cases c17 : t341 = true
      · subst c17
        have H1 : ((laws_toIntS.f k l0).bind fun t342 => ((laws_eqIntS.f k t327 t342).bind fun t345 => (if t345 = true then ((laws_toScan.f k l1_0 a1_1 a1_2 a1_3 a1_4).bind fun bt346 => ((laws_eqScan.f k t330 t333 t334 t335 t336 bt346.1 bt346.2.1 bt346.2.2.1 bt346.2.2.2.1 bt346.2.2.2.2).bind fun t353 => (if t353 = true then ((laws_markIntS.f k t327 1).bind fun bt354 => ((laws_markScan.f k t330 t333 t334 t335 t336 bt354.1).bind fun bt356 => (if bt356.1 < 0 then (laws_FnExactRefineOf.j0 k l0 t324 t338 true l1_0 a1_1 a1_2 a1_3 a1_4) else ((laws_eqIntS.f k t338 t324).bind fun t358 => (laws_FnExactRefineOf.j0 k l0 t324 t338 (!t358) l1_0 a1_1 a1_2 a1_3 a1_4))))) else (some false)))) else (some false)))) = some r := by rw [if_pos rfl] at H; exact H
        clear H
        have H := H1
        clear H1
        replace H := Option.bind_eq_some_iff.mp H
        obtain ⟨t342, A180, H⟩ := H
        replace H : ((laws_eqIntS.f k t327 t342).bind fun t345 => (if t345 = true then ((laws_toScan.f k l1_0 a1_1 a1_2 a1_3 a1_4).bind fun bt346 => ((laws_eqScan.f k t330 t333 t334 t335 t336 bt346.1 bt346.2.1 bt346.2.2.1 bt346.2.2.2.1 bt346.2.2.2.2).bind fun t353 => (if t353 = true then ((laws_markIntS.f k t327 1).bind fun bt354 => ((laws_markScan.f k t330 t333 t334 t335 t336 bt354.1).bind fun bt356 => (if bt356.1 < 0 then (laws_FnExactRefineOf.j0 k l0 t324 t338 true l1_0 a1_1 a1_2 a1_3 a1_4) else ((laws_eqIntS.f k t338 t324).bind fun t358 => (laws_FnExactRefineOf.j0 k l0 t324 t338 (!t358) l1_0 a1_1 a1_2 a1_3 a1_4))))) else (some false)))) else (some false))) = some r := H
        have A18 := Aside0.mk A180
        clear A180
        replace H := Option.bind_eq_some_iff.mp H
        obtain ⟨t345, A190, H⟩ := H
        replace H : (if t345 = true then ((laws_toScan.f k l1_0 a1_1 a1_2 a1_3 a1_4).bind fun bt346 => ((laws_eqScan.f k t330 t333 t334 t335 t336 bt346.1 bt346.2.1 bt346.2.2.1 bt346.2.2.2.1 bt346.2.2.2.2).bind fun t353 => (if t353 = true then ((laws_markIntS.f k t327 1).bind fun bt354 => ((laws_markScan.f k t330 t333 t334 t335 t336 bt354.1).bind fun bt356 => (if bt356.1 < 0 then (laws_FnExactRefineOf.j0 k l0 t324 t338 true l1_0 a1_1 a1_2 a1_3 a1_4) else ((laws_eqIntS.f k t338 t324).bind fun t358 => (laws_FnExactRefineOf.j0 k l0 t324 t338 (!t358) l1_0 a1_1 a1_2 a1_3 a1_4))))) else (some false)))) else (some false)) = some r := H
        have A19 := Aside0.mk A190
        clear A190
        by_cases c20 : t345 = true
        · subst c20
          have H1 : ((laws_toScan.f k l1_0 a1_1 a1_2 a1_3 a1_4).bind fun bt346 => ((laws_eqScan.f k t330 t333 t334 t335 t336 bt346.1 bt346.2.1 bt346.2.2.1 bt346.2.2.2.1 bt346.2.2.2.2).bind fun t353 => (if t353 = true then ((laws_markIntS.f k t327 1).bind fun bt354 => ((laws_markScan.f k t330 t333 t334 t335 t336 bt354.1).bind fun bt356 => (if bt356.1 < 0 then (laws_FnExactRefineOf.j0 k l0 t324 t338 true l1_0 a1_1 a1_2 a1_3 a1_4) else ((laws_eqIntS.f k t338 t324).bind fun t358 => (laws_FnExactRefineOf.j0 k l0 t324 t338 (!t358) l1_0 a1_1 a1_2 a1_3 a1_4))))) else (some false)))) = some r := by rw [if_pos rfl] at H; exact H
          clear H
          have H := H1
          clear H1
          replace H := Option.bind_eq_some_iff.mp H
          obtain ⟨⟨t346, t349, t350, t351, t352⟩, A210, H⟩ := H
          replace H : ((laws_eqScan.f k t330 t333 t334 t335 t336 t346 t349 t350 t351 t352).bind fun t353 => (if t353 = true then ((laws_markIntS.f k t327 1).bind fun bt354 => ((laws_markScan.f k t330 t333 t334 t335 t336 bt354.1).bind fun bt356 => (if bt356.1 < 0 then (laws_FnExactRefineOf.j0 k l0 t324 t338 true l1_0 a1_1 a1_2 a1_3 a1_4) else ((laws_eqIntS.f k t338 t324).bind fun t358 => (laws_FnExactRefineOf.j0 k l0 t324 t338 (!t358) l1_0 a1_1 a1_2 a1_3 a1_4))))) else (some false))) = some r := H
          have A21 := Aside0.mk A210
          clear A210
          replace H := Option.bind_eq_some_iff.mp H
          obtain ⟨t353, A220, H⟩ := H
          replace H : (if t353 = true then ((laws_markIntS.f k t327 1).bind fun bt354 => ((laws_markScan.f k t330 t333 t334 t335 t336 bt354.1).bind fun bt356 => (if bt356.1 < 0 then (laws_FnExactRefineOf.j0 k l0 t324 t338 true l1_0 a1_1 a1_2 a1_3 a1_4) else ((laws_eqIntS.f k t338 t324).bind fun t358 => (laws_FnExactRefineOf.j0 k l0 t324 t338 (!t358) l1_0 a1_1 a1_2 a1_3 a1_4))))) else (some false)) = some r := H
          have A22 := Aside0.mk A220
          clear A220
          by_cases c23 : t353 = true
          · subst c23
            have H1 : ((laws_markIntS.f k t327 1).bind fun bt354 => ((laws_markScan.f k t330 t333 t334 t335 t336 bt354.1).bind fun bt356 => (if bt356.1 < 0 then (laws_FnExactRefineOf.j0 k l0 t324 t338 true l1_0 a1_1 a1_2 a1_3 a1_4) else ((laws_eqIntS.f k t338 t324).bind fun t358 => (laws_FnExactRefineOf.j0 k l0 t324 t338 (!t358) l1_0 a1_1 a1_2 a1_3 a1_4))))) = some r := by rw [if_pos rfl] at H; exact H
            clear H
            have H := H1
            clear H1
            replace H := Option.bind_eq_some_iff.mp H
            obtain ⟨⟨t354, t355⟩, A240, H⟩ := H
            replace H : ((laws_markScan.f k t330 t333 t334 t335 t336 t354).bind fun bt356 => (if bt356.1 < 0 then (laws_FnExactRefineOf.j0 k l0 t324 t338 true l1_0 a1_1 a1_2 a1_3 a1_4) else ((laws_eqIntS.f k t338 t324).bind fun t358 => (laws_FnExactRefineOf.j0 k l0 t324 t338 (!t358) l1_0 a1_1 a1_2 a1_3 a1_4)))) = some r := H
            have A24 := Aside0.mk A240
            clear A240
            replace H := Option.bind_eq_some_iff.mp H
            obtain ⟨⟨t356, t357⟩, A250, H⟩ := H
            replace H : (if t356 < 0 then (laws_FnExactRefineOf.j0 k l0 t324 t338 true l1_0 a1_1 a1_2 a1_3 a1_4) else ((laws_eqIntS.f k t338 t324).bind fun t358 => (laws_FnExactRefineOf.j0 k l0 t324 t338 (!t358) l1_0 a1_1 a1_2 a1_3 a1_4))) = some r := H
            have A25 := Aside0.mk A250
            clear A250
            have HC26 := Aside0.mk H
            clear H
            go_enter Try.func5, Try.ntmps5
            try go_wp2_with (first | ((with_reducible refine gate_dst (N := 3) rfl ?_); refine box_event ?hg (N := 3) ?hd (cs := #[.slice A1_0 l1_0.length c1_0, .int .i64 a1_1, .int .i64 a1_2, .int .i64 a1_3, .int .i64 a1_4]) (t := 24) ?hr ?_; (case hd => rfl); (case hg => rfl); (case hr => first | (go_simp; done) | (go_simp; rfl)); intro gb312 hg w27 hbox hb; have n0_ := Aside0.mk (below_step (by repeat (first | (with_reducible first | exact HB.out | apply below_alloc | apply pw_below_drewN | apply below_drew1) | exact HB.out)) hb); have n1_ := Aside0.mk (hbox); have n2_ := Aside0.mk ((by rw [hg]; exact (below_size (by repeat (first | (with_reducible first | exact HB.out | apply below_alloc | apply pw_below_drewN | apply below_drew1) | exact HB.out))) : w.heap.size ≤ gb312)); have n3_ := Aside0.mk ((by rw [hg]; exact (below_size (by repeat (first | (with_reducible first | exact HB.out | apply below_alloc | apply pw_below_drewN | apply below_drew1) | exact HB.out))) : w.heap.size ≤ gb312)); clear HB; have HB := n0_; have BK312 := n1_; have GW312 := n2_; have GE312 := n3_; clear n0_ n1_ n2_ n3_; clear hb hbox hg; have hcz28_0 : w27.cell? ⟨gb312, 0, none⟩ = some (.slice A1_0 l1_0.length c1_0) := (blk_cell BK312.out 0).trans rfl; have hcz28_1 : w27.cell? ⟨gb312, 1, none⟩ = some (.int .i64 a1_1) := (blk_cell BK312.out 1).trans rfl; have hcz28_2 : w27.cell? ⟨gb312, 2, none⟩ = some (.int .i64 a1_2) := (blk_cell BK312.out 2).trans rfl; have hcz28_3 : w27.cell? ⟨gb312, 3, none⟩ = some (.int .i64 a1_3) := (blk_cell BK312.out 3).trans rfl; have hcz28_4 : w27.cell? ⟨gb312, 4, none⟩ = some (.int .i64 a1_4) := (blk_cell BK312.out 4).trans rfl; have hfz28_0 := blk_frozen BK312.out 0; have hfz28_1 := blk_frozen BK312.out 1; have hfz28_2 := blk_frozen BK312.out 2; have hfz28_3 := blk_frozen BK312.out 3; have hfz28_4 := blk_frozen BK312.out 4) | ((with_reducible refine gate_callee (f := 15) rfl ?_); refine goesL_ (some 19) rfl rfl Try.func15 (by kernel_rfl) rfl #[.agg #[.slice A1_0 l1_0.length c1_0, .int .i64 a1_1, .int .i64 a1_2, .int .i64 a1_3, .int .i64 a1_4], .int .i64 1048576] rfl (by (try simp only [List.map_toArray, List.map_cons, List.map_nil]); first | done | rfl | (simp only [List.length_drop, List.length_take]; rfl)) ?_; (with_reducible refine (laws_szScan.calls _ _ l1_0 a1_1 a1_2 a1_3 a1_4 1048576 t313 _ ?side1 ?side2 A5.out).mono ?_); (case side1 => repeat (first | exact (Kd.C_below HR1_0.out HB.out) | (with_reducible refine Kd.C_alloc ?_ _) | (with_reducible refine Kd.C_drewN ?_ _) | (with_reducible refine Kd.C_drew ?_))); (case side2 => exact HC1_0.out); rintro e w29 ⟨rfl, hb⟩; refine ⟨_, rfl, ?_⟩; have n0_ := Aside0.mk (blk_below (g := gb312) (o := .cells #[.slice A1_0 l1_0.length c1_0, .int .i64 a1_1, .int .i64 a1_2, .int .i64 a1_3, .int .i64 a1_4] 24 (0, 0)) (by (with_reducible repeat (first | refine blk_drewN ?_ _ | refine blk_drew ?_ | refine blk_alloc ?_ _)); exact BK312.out) hb); have n1_ := Aside0.mk (below_step (by repeat (first | (with_reducible first | exact HB.out | apply below_alloc | apply pw_below_drewN | apply below_drew1 | refine below_set ?_ GE312.out) | exact HB.out)) hb); clear BK312; clear HB; have BK312 := n0_; have HB := n1_; clear n0_ n1_; (try clear hb); (try clear hb2); (try clear hk); (try clear hi)))
            have n0_ := Aside0.mk (blk_drew BK312.out)
            have n1_ := Aside0.mk (below_drew1 HB.out)
            clear BK312
            clear HB
            have BK312 := n0_
            have HB := n1_
            clear n0_ n1_
            refine start_ (n := 6) (S := fun w' => w'.cell? ⟨gb312, 0, none⟩ = some (.slice A1_0 l1_0.length c1_0) ∧ w'.cell? ⟨gb312, 1, none⟩ = some (.int .i64 a1_1) ∧ w'.cell? ⟨gb312, 2, none⟩ = some (.int .i64 a1_2) ∧ w'.cell? ⟨gb312, 3, none⟩ = some (.int .i64 a1_3) ∧ w'.cell? ⟨gb312, 4, none⟩ = some (.int .i64 a1_4)) (ds := []) #[false, false, false, false, false, false] (by kernel_rfl) rfl rfl ⟨(blk_cell BK312.out 0).trans rfl, (blk_cell BK312.out 1).trans rfl, (blk_cell BK312.out 2).trans rfl, (blk_cell BK312.out 3).trans rfl, (blk_cell BK312.out 4).trans rfl⟩ (fun hHeld => ?_)
            generalize w29.drew = w30 at BK312 HB hHeld ⊢
            refine pure_ (i := 0) (N := some 22) (v := ?_) (a' := ?_) #[true, false, false, false, false, false] rfl rfl (by kernel_rfl) (fun _ _ _ h => h) (Or.inl ⟨by rfl, ?_⟩) ?_ ?_
            rotate_left
            · intro w'
              go_simp
              with_reducible rfl
            rotate_left
            · simp only [Act.put, List.setIfInBounds_toArray, List.set_cons_zero, List.set_cons_succ, i64_w, i32_w]
              rfl
            refine take_ (i := 2) (N := some 24) (v := ?_) (a' := ?_) #[true, false, true, false, false, false] rfl rfl (by kernel_rfl) (fun _ _ _ h => h) (Or.inl ⟨by rfl, ?_⟩) hHeld ?_ ?_
            rotate_left
            · rintro w' ⟨s0, s1, s2, s3, s4⟩
              go_simp
              with_reducible rfl
            rotate_left
            · simp only [Act.put, List.setIfInBounds_toArray, List.set_cons_zero, List.set_cons_succ, i64_w, i32_w]
              rfl
            refine one_ (i := 1) (N := some 23) #[true, true, true, false, false, false] rfl rfl (by kernel_rfl) (by decide) (fun K hK => ?_)
            refine goes_ Try.func17 (by kernel_rfl) rfl #[.slice A0 l0.length c0] (by rfl) rfl rfl (by (try simp only [List.map_toArray, List.map_cons, List.map_nil]); first | done | rfl | (simp only [List.length_drop, List.length_take]; rfl)) ?_
            with_reducible refine (laws_toIntS.calls k _ _ l0 t314 _ ?side1 ?side2 A10.out).mono ?_
            (case side1 => repeat (first | exact (Kd.C_below HR0.out HB.out) | (with_reducible refine Kd.C_alloc ?_ _) | (with_reducible refine Kd.C_drewN ?_ _) | (with_reducible refine Kd.C_drew ?_)))
            (case side2 => exact HC0.out)
            rintro e w31 ⟨v315, rfl, ho0, hb⟩
            refine ⟨_, rfl, ?_⟩
            have n0_ := Aside0.mk (Kd.R_lower ho0 (below_size (by repeat (first | (with_reducible first | exact HB.out | apply below_alloc | apply pw_below_drewN | apply below_drew1 | refine below_set ?_ GE312.out) | exact HB.out))))
            have n1_ := Aside0.mk (blk_below (g := gb312) (o := .cells #[.slice A1_0 l1_0.length c1_0, .int .i64 a1_1, .int .i64 a1_2, .int .i64 a1_3, .int .i64 a1_4] 24 (0, 0)) (by (with_reducible repeat (first | refine blk_drewN ?_ _ | refine blk_drew ?_ | refine blk_alloc ?_ _)); exact BK312.out) hb)
            have n2_ := Aside0.mk (below_step (by repeat (first | (with_reducible first | exact HB.out | apply below_alloc | apply pw_below_drewN | apply below_drew1 | refine below_set ?_ GE312.out) | exact HB.out)) hb)
            clear BK312
            clear HB
            have HO316 := n0_
            have BK312 := n1_
            have HB := n2_
            clear n0_ n1_ n2_
            (try clear hb)
            (try clear hb2)
            (try clear hk)
            (try clear hi)
            (try clear ho0)
            refine hK.out _ _ ⟨(blk_cell BK312.out 0).trans rfl, (blk_cell BK312.out 1).trans rfl, (blk_cell BK312.out 2).trans rfl, (blk_cell BK312.out 3).trans rfl, (blk_cell BK312.out 4).trans rfl⟩ (fun hHeld => ?_)
            clear hK K
            refine norm_ (a' := ?_) ?_ ?_
            rotate_left
            · show Act.put _ (some 23) _ = _
              simp only [Act.put, List.setIfInBounds_toArray, List.set_cons_zero, List.set_cons_succ, i64_w, i32_w]
              rfl
            refine one_ (i := 3) (N := some 25) #[true, true, true, true, false, false] rfl rfl (by kernel_rfl) (by decide) (fun K hK => ?_)
            refine goes_ Try.func18 (by kernel_rfl) rfl #[.agg #[.slice A1_0 l1_0.length c1_0, .int .i64 a1_1, .int .i64 a1_2, .int .i64 a1_3, .int .i64 a1_4]] (by rfl) rfl rfl (by (try simp only [List.map_toArray, List.map_cons, List.map_nil]); first | done | rfl | (simp only [List.length_drop, List.length_take]; rfl)) ?_
            with_reducible refine (laws_toScan.calls k _ _ l1_0 a1_1 a1_2 a1_3 a1_4 t317 t320 t321 t322 t323 _ ?side1 ?side2 A11.out).mono ?_
            (case side1 => repeat (first | exact (Kd.C_below HR1_0.out HB.out) | (with_reducible refine Kd.C_alloc ?_ _) | (with_reducible refine Kd.C_drewN ?_ _) | (with_reducible refine Kd.C_drew ?_)))
            (case side2 => exact HC1_0.out)
            rintro e w32 ⟨v318, rfl, ho0, hb⟩
            refine ⟨_, rfl, ?_⟩
            have n0_ := Aside0.mk (Kd.R_elder' (by (with_reducible repeat (first | apply Kd.R_alloc | apply Kd.R_drewN | apply Kd.R_drew)); exact HO316.out) (Kd.R_base ho0) hb)
            have n1_ := Aside0.mk (Kd.R_lower (Kd.R_new' ho0 (Kd.R_lt (by (with_reducible repeat (first | apply Kd.R_alloc | apply Kd.R_drewN | apply Kd.R_drew)); exact HO316.out))) (below_size (by repeat (first | (with_reducible first | exact HB.out | apply below_alloc | apply pw_below_drewN | apply below_drew1 | refine below_set ?_ GE312.out) | exact HB.out))))
            have n2_ := Aside0.mk (blk_below (g := gb312) (o := .cells #[.slice A1_0 l1_0.length c1_0, .int .i64 a1_1, .int .i64 a1_2, .int .i64 a1_3, .int .i64 a1_4] 24 (0, 0)) (by (with_reducible repeat (first | refine blk_drewN ?_ _ | refine blk_drew ?_ | refine blk_alloc ?_ _)); exact BK312.out) hb)
            have n3_ := Aside0.mk (below_step (by repeat (first | (with_reducible first | exact HB.out | apply below_alloc | apply pw_below_drewN | apply below_drew1 | refine below_set ?_ GE312.out) | exact HB.out)) hb)
            clear HO316
            clear BK312
            clear HB
            have HO316 := n0_
            have HO319 := n1_
            have BK312 := n2_
            have HB := n3_
            clear n0_ n1_ n2_ n3_
            (try clear hb)
            (try clear hb2)
            (try clear hk)
            (try clear hi)
            (try clear ho0)
            obtain ⟨Ao33, co33, eo33⟩ := Kd.R_slice HO316.out
            (first | subst eo33 | (injection eo33 with f1_ f2_ f3_; have f4_ := f1_.symm; have f5_ := f3_.symm; clear f1_ f2_ f3_; subst f4_; subst f5_))
            obtain ⟨Ao34, co34, eo34⟩ := Kd.R_slice HO319.out
            (first | subst eo34 | (injection eo34 with f1_ f2_ f3_; have f4_ := f1_.symm; have f5_ := f3_.symm; clear f1_ f2_ f3_; subst f4_; subst f5_))
            refine hK.out _ _ ⟨(blk_cell BK312.out 0).trans rfl, (blk_cell BK312.out 1).trans rfl, (blk_cell BK312.out 2).trans rfl, (blk_cell BK312.out 3).trans rfl, (blk_cell BK312.out 4).trans rfl⟩ (fun hHeld => ?_)
            clear hK K
            refine norm_ (a' := ?_) ?_ ?_
            rotate_left
            · show Act.put _ (some 25) _ = _
              simp only [Act.put, List.setIfInBounds_toArray, List.set_cons_zero, List.set_cons_succ, i64_w, i32_w]
              rfl
            refine one_ (i := 4) (N := some 26) #[true, true, true, true, true, false] rfl rfl (by kernel_rfl) (by decide) (fun K hK => ?_)
            refine goes_ Try.func27 (by kernel_rfl) rfl #[.slice Ao33 t314.length co33, .agg #[.slice Ao34 t317.length co34, .int .i64 t320, .int .i64 t321, .int .i64 t322, .int .i64 t323]] (by rfl) rfl rfl (by (try simp only [List.map_toArray, List.map_cons, List.map_nil]); first | done | rfl | (simp only [List.length_drop, List.length_take]; rfl)) ?_
            with_reducible refine (spec_RefineOf.calls k _ _ t314 _ _ t317 t320 t321 t322 t323 t324 _ ?side1 ?side2 ?side3 ?side4 A12.out).mono ?_
            (case side1 => repeat (first | exact (Kd.R_reads' HO316.out).2.2 | (with_reducible refine Kd.C_alloc ?_ _) | (with_reducible refine Kd.C_drewN ?_ _) | (with_reducible refine Kd.C_drew ?_)))
            (case side2 => exact (Kd.R_reads' HO316.out).2.1)
            (case side3 => repeat (first | exact (Kd.R_reads' HO319.out).2.2 | (with_reducible refine Kd.C_alloc ?_ _) | (with_reducible refine Kd.C_drewN ?_ _) | (with_reducible refine Kd.C_drew ?_)))
            (case side4 => exact (Kd.R_reads' HO319.out).2.1)
            rintro e w35 ⟨v325, rfl, ho0, hb⟩
            refine ⟨_, rfl, ?_⟩
            have n0_ := Aside0.mk (Kd.R_elder' (by (with_reducible repeat (first | apply Kd.R_alloc | apply Kd.R_drewN | apply Kd.R_drew)); exact HO316.out) (Kd.R_base ho0) hb)
            have n1_ := Aside0.mk (Kd.R_elder' (by (with_reducible repeat (first | apply Kd.R_alloc | apply Kd.R_drewN | apply Kd.R_drew)); exact HO319.out) (Kd.R_base ho0) hb)
            have n2_ := Aside0.mk (Kd.R_lower (Kd.R_new' (Kd.R_new' ho0 (Kd.R_lt (by (with_reducible repeat (first | apply Kd.R_alloc | apply Kd.R_drewN | apply Kd.R_drew)); exact HO316.out))) (Kd.R_lt (by (with_reducible repeat (first | apply Kd.R_alloc | apply Kd.R_drewN | apply Kd.R_drew)); exact HO319.out))) (below_size (by repeat (first | (with_reducible first | exact HB.out | apply below_alloc | apply pw_below_drewN | apply below_drew1 | refine below_set ?_ GE312.out) | exact HB.out))))
            have n3_ := Aside0.mk (blk_below (g := gb312) (o := .cells #[.slice A1_0 l1_0.length c1_0, .int .i64 a1_1, .int .i64 a1_2, .int .i64 a1_3, .int .i64 a1_4] 24 (0, 0)) (by (with_reducible repeat (first | refine blk_drewN ?_ _ | refine blk_drew ?_ | refine blk_alloc ?_ _)); exact BK312.out) hb)
            have n4_ := Aside0.mk (below_step (by repeat (first | (with_reducible first | exact HB.out | apply below_alloc | apply pw_below_drewN | apply below_drew1 | refine below_set ?_ GE312.out) | exact HB.out)) hb)
            clear HO316
            clear HO319
            clear BK312
            clear HB
            have HO316 := n0_
            have HO319 := n1_
            have HO326 := n2_
            have BK312 := n3_
            have HB := n4_
            clear n0_ n1_ n2_ n3_ n4_
            (try clear hb)
            (try clear hb2)
            (try clear hk)
            (try clear hi)
            (try clear ho0)
            refine hK.out _ _ ⟨(blk_cell BK312.out 0).trans rfl, (blk_cell BK312.out 1).trans rfl, (blk_cell BK312.out 2).trans rfl, (blk_cell BK312.out 3).trans rfl, (blk_cell BK312.out 4).trans rfl⟩ (fun hHeld => ?_)
            clear hK K
            refine norm_ (a' := ?_) ?_ ?_
            rotate_left
            · show Act.put _ (some 26) _ = _
              simp only [Act.put, List.setIfInBounds_toArray, List.set_cons_zero, List.set_cons_succ, i64_w, i32_w]
              rfl
            refine pure_ (i := 5) (N := some 6) (v := ?_) (a' := ?_) #[true, true, true, true, true, true] rfl rfl (by kernel_rfl) (fun _ _ _ h => h) (Or.inl ⟨by rfl, ?_⟩) ?_ ?_
            rotate_left
            · intro w'
              go_simp
              with_reducible rfl
            rotate_left
            · simp only [Act.put, List.setIfInBounds_toArray, List.set_cons_zero, List.set_cons_succ, i64_w, i32_w]
              rfl
            refine done_ (by kernel_rfl) ?_
            try go_wp2_with (first | ((with_reducible refine gate_callee (f := 17) rfl ?_); refine goesL_ (some 28) rfl rfl Try.func17 (by kernel_rfl) rfl #[.slice A0 l0.length c0] rfl (by (try simp only [List.map_toArray, List.map_cons, List.map_nil]); first | done | rfl | (simp only [List.length_drop, List.length_take]; rfl)) ?_; (with_reducible refine (laws_toIntS.calls k _ _ l0 t327 _ ?side1 ?side2 A13.out).mono ?_); (case side1 => repeat (first | exact (Kd.C_below HR0.out HB.out) | (with_reducible refine Kd.C_alloc ?_ _) | (with_reducible refine Kd.C_drewN ?_ _) | (with_reducible refine Kd.C_drew ?_))); (case side2 => exact HC0.out); rintro e w36 ⟨v328, rfl, ho0, hb⟩; refine ⟨_, rfl, ?_⟩; have n0_ := Aside0.mk (Kd.R_elder' (by (with_reducible repeat (first | apply Kd.R_alloc | apply Kd.R_drewN | apply Kd.R_drew)); exact HO316.out) (Kd.R_base ho0) hb); have n1_ := Aside0.mk (Kd.R_elder' (by (with_reducible repeat (first | apply Kd.R_alloc | apply Kd.R_drewN | apply Kd.R_drew)); exact HO319.out) (Kd.R_base ho0) hb); have n2_ := Aside0.mk (Kd.R_elder' (by (with_reducible repeat (first | apply Kd.R_alloc | apply Kd.R_drewN | apply Kd.R_drew)); exact HO326.out) (Kd.R_base ho0) hb); have n3_ := Aside0.mk (Kd.R_lower (Kd.R_new' (Kd.R_new' (Kd.R_new' ho0 (Kd.R_lt (by (with_reducible repeat (first | apply Kd.R_alloc | apply Kd.R_drewN | apply Kd.R_drew)); exact HO316.out))) (Kd.R_lt (by (with_reducible repeat (first | apply Kd.R_alloc | apply Kd.R_drewN | apply Kd.R_drew)); exact HO319.out))) (Kd.R_lt (by (with_reducible repeat (first | apply Kd.R_alloc | apply Kd.R_drewN | apply Kd.R_drew)); exact HO326.out))) (below_size (by repeat (first | (with_reducible first | exact HB.out | apply below_alloc | apply pw_below_drewN | apply below_drew1 | refine below_set ?_ GE312.out) | exact HB.out)))); have n4_ := Aside0.mk (blk_below (g := gb312) (o := .cells #[.slice A1_0 l1_0.length c1_0, .int .i64 a1_1, .int .i64 a1_2, .int .i64 a1_3, .int .i64 a1_4] 24 (0, 0)) (by (with_reducible repeat (first | refine blk_drewN ?_ _ | refine blk_drew ?_ | refine blk_alloc ?_ _)); exact BK312.out) hb); have n5_ := Aside0.mk (below_step (by repeat (first | (with_reducible first | exact HB.out | apply below_alloc | apply pw_below_drewN | apply below_drew1 | refine below_set ?_ GE312.out) | exact HB.out)) hb); clear HO316; clear HO319; clear HO326; clear BK312; clear HB; have HO316 := n0_; have HO319 := n1_; have HO326 := n2_; have HO329 := n3_; have BK312 := n4_; have HB := n5_; clear n0_ n1_ n2_ n3_ n4_ n5_; (try clear hb); (try clear hb2); (try clear hk); (try clear hi); (try clear ho0); have hcz37_0 : w36.cell? ⟨gb312, 0, none⟩ = some (.slice A1_0 l1_0.length c1_0) := (blk_cell BK312.out 0).trans rfl; have hcz37_1 : w36.cell? ⟨gb312, 1, none⟩ = some (.int .i64 a1_1) := (blk_cell BK312.out 1).trans rfl; have hcz37_2 : w36.cell? ⟨gb312, 2, none⟩ = some (.int .i64 a1_2) := (blk_cell BK312.out 2).trans rfl; have hcz37_3 : w36.cell? ⟨gb312, 3, none⟩ = some (.int .i64 a1_3) := (blk_cell BK312.out 3).trans rfl; have hcz37_4 : w36.cell? ⟨gb312, 4, none⟩ = some (.int .i64 a1_4) := (blk_cell BK312.out 4).trans rfl; have hfz37_0 := blk_frozen BK312.out 0; have hfz37_1 := blk_frozen BK312.out 1; have hfz37_2 := blk_frozen BK312.out 2; have hfz37_3 := blk_frozen BK312.out 3; have hfz37_4 := blk_frozen BK312.out 4) | ((with_reducible refine gate_callee (f := 18) rfl ?_); refine goesL_ (some 30) rfl rfl Try.func18 (by kernel_rfl) rfl #[.agg #[.slice A1_0 l1_0.length c1_0, .int .i64 a1_1, .int .i64 a1_2, .int .i64 a1_3, .int .i64 a1_4]] rfl (by (try simp only [List.map_toArray, List.map_cons, List.map_nil]); first | done | rfl | (simp only [List.length_drop, List.length_take]; rfl)) ?_; (with_reducible refine (laws_toScan.calls k _ _ l1_0 a1_1 a1_2 a1_3 a1_4 t330 t333 t334 t335 t336 _ ?side1 ?side2 A14.out).mono ?_); (case side1 => repeat (first | exact (Kd.C_below HR1_0.out HB.out) | (with_reducible refine Kd.C_alloc ?_ _) | (with_reducible refine Kd.C_drewN ?_ _) | (with_reducible refine Kd.C_drew ?_))); (case side2 => exact HC1_0.out); rintro e w38 ⟨v331, rfl, ho0, hb⟩; refine ⟨_, rfl, ?_⟩; have n0_ := Aside0.mk (Kd.R_elder' (by (with_reducible repeat (first | apply Kd.R_alloc | apply Kd.R_drewN | apply Kd.R_drew)); exact HO316.out) (Kd.R_base ho0) hb); have n1_ := Aside0.mk (Kd.R_elder' (by (with_reducible repeat (first | apply Kd.R_alloc | apply Kd.R_drewN | apply Kd.R_drew)); exact HO319.out) (Kd.R_base ho0) hb); have n2_ := Aside0.mk (Kd.R_elder' (by (with_reducible repeat (first | apply Kd.R_alloc | apply Kd.R_drewN | apply Kd.R_drew)); exact HO326.out) (Kd.R_base ho0) hb); have n3_ := Aside0.mk (Kd.R_elder' (by (with_reducible repeat (first | apply Kd.R_alloc | apply Kd.R_drewN | apply Kd.R_drew)); exact HO329.out) (Kd.R_base ho0) hb); have n4_ := Aside0.mk (Kd.R_lower (Kd.R_new' (Kd.R_new' (Kd.R_new' (Kd.R_new' ho0 (Kd.R_lt (by (with_reducible repeat (first | apply Kd.R_alloc | apply Kd.R_drewN | apply Kd.R_drew)); exact HO316.out))) (Kd.R_lt (by (with_reducible repeat (first | apply Kd.R_alloc | apply Kd.R_drewN | apply Kd.R_drew)); exact HO319.out))) (Kd.R_lt (by (with_reducible repeat (first | apply Kd.R_alloc | apply Kd.R_drewN | apply Kd.R_drew)); exact HO326.out))) (Kd.R_lt (by (with_reducible repeat (first | apply Kd.R_alloc | apply Kd.R_drewN | apply Kd.R_drew)); exact HO329.out))) (below_size (by repeat (first | (with_reducible first | exact HB.out | apply below_alloc | apply pw_below_drewN | apply below_drew1 | refine below_set ?_ GE312.out) | exact HB.out)))); have n5_ := Aside0.mk (blk_below (g := gb312) (o := .cells #[.slice A1_0 l1_0.length c1_0, .int .i64 a1_1, .int .i64 a1_2, .int .i64 a1_3, .int .i64 a1_4] 24 (0, 0)) (by (with_reducible repeat (first | refine blk_drewN ?_ _ | refine blk_drew ?_ | refine blk_alloc ?_ _)); exact BK312.out) hb); have n6_ := Aside0.mk (below_step (by repeat (first | (with_reducible first | exact HB.out | apply below_alloc | apply pw_below_drewN | apply below_drew1 | refine below_set ?_ GE312.out) | exact HB.out)) hb); clear HO316; clear HO319; clear HO326; clear HO329; clear BK312; clear HB; have HO316 := n0_; have HO319 := n1_; have HO326 := n2_; have HO329 := n3_; have HO332 := n4_; have BK312 := n5_; have HB := n6_; clear n0_ n1_ n2_ n3_ n4_ n5_ n6_; (try clear hb); (try clear hb2); (try clear hk); (try clear hi); (try clear ho0)) | ((with_reducible refine gate_dst (N := 8) rfl ?_); refine box_event ?hg (N := 8) ?hd (cs := #[.slice none 0 0, .int .i64 0, .int .i64 0, .int .i64 0, .int .i64 0]) (t := 28) ?hr ?_; (case hd => rfl); (case hg => rfl); (case hr => first | (go_simp; done) | (go_simp; rfl)); intro gb337 hg w39 hbox hb; have n0_ := Aside0.mk (Kd.R_below (by (with_reducible repeat (first | apply Kd.R_alloc | apply Kd.R_drewN | apply Kd.R_drew)); exact HO316.out) hb); have n1_ := Aside0.mk (Kd.R_below (by (with_reducible repeat (first | apply Kd.R_alloc | apply Kd.R_drewN | apply Kd.R_drew)); exact HO319.out) hb); have n2_ := Aside0.mk (Kd.R_below (by (with_reducible repeat (first | apply Kd.R_alloc | apply Kd.R_drewN | apply Kd.R_drew)); exact HO326.out) hb); have n3_ := Aside0.mk (Kd.R_below (by (with_reducible repeat (first | apply Kd.R_alloc | apply Kd.R_drewN | apply Kd.R_drew)); exact HO329.out) hb); have n4_ := Aside0.mk (Kd.R_below (by (with_reducible repeat (first | apply Kd.R_alloc | apply Kd.R_drewN | apply Kd.R_drew)); exact HO332.out) hb); have n5_ := Aside0.mk (blk_below (g := gb312) (o := .cells #[.slice A1_0 l1_0.length c1_0, .int .i64 a1_1, .int .i64 a1_2, .int .i64 a1_3, .int .i64 a1_4] 24 (0, 0)) (by (with_reducible repeat (first | refine blk_drewN ?_ _ | refine blk_drew ?_ | refine blk_alloc ?_ _)); exact BK312.out) hb); have n6_ := Aside0.mk (below_step (by repeat (first | (with_reducible first | exact HB.out | apply below_alloc | apply pw_below_drewN | apply below_drew1 | refine below_set ?_ GE312.out) | exact HB.out)) hb); have n7_ := Aside0.mk (hbox); have n8_ := Aside0.mk ((by rw [hg]; exact (below_size (by repeat (first | (with_reducible first | exact HB.out | apply below_alloc | apply pw_below_drewN | apply below_drew1 | refine below_set ?_ GE312.out) | exact HB.out))) : w.heap.size ≤ gb337)); have n9_ := Aside0.mk ((by rw [hg]; exact (below_size (by repeat (first | (with_reducible first | exact HB.out | apply below_alloc | apply pw_below_drewN | apply below_drew1 | refine below_set ?_ GE312.out) | exact HB.out))) : w.heap.size ≤ gb337)); have n10_ := Aside0.mk ((by rw [hg]; exact Nat.ne_of_lt (blk_lt (g := gb312) (o := .cells #[.slice A1_0 l1_0.length c1_0, .int .i64 a1_1, .int .i64 a1_2, .int .i64 a1_3, .int .i64 a1_4] 24 (0, 0)) (by (with_reducible repeat (first | refine blk_drewN ?_ _ | refine blk_drew ?_ | refine blk_alloc ?_ _)); exact BK312.out)) : gb312 ≠ gb337)); have n11_ := Aside0.mk ((by rw [hg]; exact Nat.ne_of_gt (blk_lt (g := gb312) (o := .cells #[.slice A1_0 l1_0.length c1_0, .int .i64 a1_1, .int .i64 a1_2, .int .i64 a1_3, .int .i64 a1_4] 24 (0, 0)) (by (with_reducible repeat (first | refine blk_drewN ?_ _ | refine blk_drew ?_ | refine blk_alloc ?_ _)); exact BK312.out)) : gb337 ≠ gb312)); clear HO316; clear HO319; clear HO326; clear HO329; clear HO332; clear BK312; clear HB; have HO316 := n0_; have HO319 := n1_; have HO326 := n2_; have HO329 := n3_; have HO332 := n4_; have BK312 := n5_; have HB := n6_; have BK337 := n7_; have GW337 := n8_; have GE337 := n9_; have NB312_337 := n10_; have NB337_312 := n11_; clear n0_ n1_ n2_ n3_ n4_ n5_ n6_ n7_ n8_ n9_ n10_ n11_; clear hb hbox hg; obtain ⟨Ao40, co40, eo40⟩ := Kd.R_slice HO332.out; subst eo40; have hnb41 := NB337_312.out; have hnc41 := NB312_337.out; have hcz42_0 : w39.cell? ⟨gb337, 0, none⟩ = some (.slice none 0 0) := (blk_cell BK337.out 0).trans rfl; have hcz42_1 : w39.cell? ⟨gb337, 1, none⟩ = some (.int .i64 0) := (blk_cell BK337.out 1).trans rfl; have hcz42_2 : w39.cell? ⟨gb337, 2, none⟩ = some (.int .i64 0) := (blk_cell BK337.out 2).trans rfl; have hcz42_3 : w39.cell? ⟨gb337, 3, none⟩ = some (.int .i64 0) := (blk_cell BK337.out 3).trans rfl; have hcz42_4 : w39.cell? ⟨gb337, 4, none⟩ = some (.int .i64 0) := (blk_cell BK337.out 4).trans rfl; have hfz42_0 := blk_frozen BK337.out 0; have hfz42_1 := blk_frozen BK337.out 1; have hfz42_2 := blk_frozen BK337.out 2; have hfz42_3 := blk_frozen BK337.out 3; have hfz42_4 := blk_frozen BK337.out 4; obtain ⟨Ao43, co43, eo43⟩ := Kd.R_slice HO329.out; subst eo43) | ((with_reducible refine gate_callee (f := 28) rfl ?_); refine goesL_ (some 33) rfl rfl Try.func28 (by kernel_rfl) rfl #[.slice Ao43 t327.length co43, .agg #[.slice Ao40 t330.length co40, .int .i64 t333, .int .i64 t334, .int .i64 t335, .int .i64 t336]] rfl (by (try simp only [List.map_toArray, List.map_cons, List.map_nil]); first | done | rfl | (simp only [List.length_drop, List.length_take]; rfl)) ?_; (with_reducible refine (impl_RefineOf.calls k _ _ t327 _ _ t330 t333 t334 t335 t336 t338 _ ?side1 ?side2 ?side3 ?side4 A15.out).mono ?_); (case side1 => refine (Kd.R_reads' (e := 3) (base := w.heap.size) (ok := fun k_ => ((((True ∧ some k_ ≠ (.slice Ao33 t314.length co33 : Value).ownBlock) ∧ some k_ ≠ (.slice Ao34 t317.length co34 : Value).ownBlock) ∧ some k_ ≠ (v325 : Value).ownBlock) ∧ some k_ ≠ (.slice Ao40 t330.length co40 : Value).ownBlock)) (n := t327.length) (c := co43) ?_).2.2; exact (by (with_reducible repeat (first | apply Kd.R_alloc | apply Kd.R_drewN | apply Kd.R_drew)); exact (Kd.R_mono (Kd.R_far (p := ⟨gb337, 4, none⟩) (Kd.R_far (p := ⟨gb337, 3, none⟩) (Kd.R_far (p := ⟨gb337, 2, none⟩) (Kd.R_far (p := ⟨gb337, 1, none⟩) (Kd.R_far (p := ⟨gb337, 0, none⟩) (Kd.R_types HO329.out BK337.out (by decide)) (fun _ hk => hk.2) (.slice Ao40 t330.length co40)) (fun _ hk => hk.2) (.int .i64 t333)) (fun _ hk => hk.2) (.int .i64 t334)) (fun _ hk => hk.2) (.int .i64 t335)) (fun _ hk => hk.2) (.int .i64 t336)) (fun _ h_ => h_.1)))); (case side2 => exact (Kd.R_reads' HO329.out).2.1); (case side3 => refine (Kd.R_reads' (e := 3) (base := w.heap.size) (ok := fun k_ => ((((True ∧ some k_ ≠ (.slice Ao33 t314.length co33 : Value).ownBlock) ∧ some k_ ≠ (.slice Ao34 t317.length co34 : Value).ownBlock) ∧ some k_ ≠ (v325 : Value).ownBlock) ∧ some k_ ≠ (.slice Ao43 t327.length co43 : Value).ownBlock)) (n := t330.length) (c := co40) ?_).2.2; exact (by (with_reducible repeat (first | apply Kd.R_alloc | apply Kd.R_drewN | apply Kd.R_drew)); exact (Kd.R_mono (Kd.R_far (p := ⟨gb337, 4, none⟩) (Kd.R_far (p := ⟨gb337, 3, none⟩) (Kd.R_far (p := ⟨gb337, 2, none⟩) (Kd.R_far (p := ⟨gb337, 1, none⟩) (Kd.R_far (p := ⟨gb337, 0, none⟩) (Kd.R_types HO332.out BK337.out (by decide)) (fun _ hk => hk.2) (.slice Ao40 t330.length co40)) (fun _ hk => hk.2) (.int .i64 t333)) (fun _ hk => hk.2) (.int .i64 t334)) (fun _ hk => hk.2) (.int .i64 t335)) (fun _ hk => hk.2) (.int .i64 t336)) (fun _ h_ => h_.1)))); (case side4 => exact (Kd.R_reads' HO332.out).2.1); rintro e w44 ⟨v339, rfl, ho0, hb⟩; refine ⟨_, rfl, ?_⟩; have n0_ := Aside0.mk (Kd.R_elder' (by (with_reducible repeat (first | apply Kd.R_alloc | apply Kd.R_drewN | apply Kd.R_drew)); exact (Kd.R_mono (Kd.R_far (p := ⟨gb337, 4, none⟩) (Kd.R_far (p := ⟨gb337, 3, none⟩) (Kd.R_far (p := ⟨gb337, 2, none⟩) (Kd.R_far (p := ⟨gb337, 1, none⟩) (Kd.R_far (p := ⟨gb337, 0, none⟩) (Kd.R_types HO316.out BK337.out (by decide)) (fun _ hk => hk.2) (.slice Ao40 t330.length co40)) (fun _ hk => hk.2) (.int .i64 t333)) (fun _ hk => hk.2) (.int .i64 t334)) (fun _ hk => hk.2) (.int .i64 t335)) (fun _ hk => hk.2) (.int .i64 t336)) (fun _ h_ => h_.1))) (Kd.R_base ho0) hb); have n1_ := Aside0.mk (Kd.R_elder' (by (with_reducible repeat (first | apply Kd.R_alloc | apply Kd.R_drewN | apply Kd.R_drew)); exact (Kd.R_mono (Kd.R_far (p := ⟨gb337, 4, none⟩) (Kd.R_far (p := ⟨gb337, 3, none⟩) (Kd.R_far (p := ⟨gb337, 2, none⟩) (Kd.R_far (p := ⟨gb337, 1, none⟩) (Kd.R_far (p := ⟨gb337, 0, none⟩) (Kd.R_types HO319.out BK337.out (by decide)) (fun _ hk => hk.2) (.slice Ao40 t330.length co40)) (fun _ hk => hk.2) (.int .i64 t333)) (fun _ hk => hk.2) (.int .i64 t334)) (fun _ hk => hk.2) (.int .i64 t335)) (fun _ hk => hk.2) (.int .i64 t336)) (fun _ h_ => h_.1))) (Kd.R_base ho0) hb); have n2_ := Aside0.mk (Kd.R_elder' (by (with_reducible repeat (first | apply Kd.R_alloc | apply Kd.R_drewN | apply Kd.R_drew)); exact (Kd.R_mono (Kd.R_far (p := ⟨gb337, 4, none⟩) (Kd.R_far (p := ⟨gb337, 3, none⟩) (Kd.R_far (p := ⟨gb337, 2, none⟩) (Kd.R_far (p := ⟨gb337, 1, none⟩) (Kd.R_far (p := ⟨gb337, 0, none⟩) (Kd.R_types HO326.out BK337.out (by decide)) (fun _ hk => hk.2) (.slice Ao40 t330.length co40)) (fun _ hk => hk.2) (.int .i64 t333)) (fun _ hk => hk.2) (.int .i64 t334)) (fun _ hk => hk.2) (.int .i64 t335)) (fun _ hk => hk.2) (.int .i64 t336)) (fun _ h_ => h_.1))) (Kd.R_base ho0) hb); have n3_ := Aside0.mk (Kd.R_elder' (by (with_reducible repeat (first | apply Kd.R_alloc | apply Kd.R_drewN | apply Kd.R_drew)); exact (Kd.R_mono (Kd.R_far (p := ⟨gb337, 4, none⟩) (Kd.R_far (p := ⟨gb337, 3, none⟩) (Kd.R_far (p := ⟨gb337, 2, none⟩) (Kd.R_far (p := ⟨gb337, 1, none⟩) (Kd.R_far (p := ⟨gb337, 0, none⟩) (Kd.R_types HO329.out BK337.out (by decide)) (fun _ hk => hk.2) (.slice Ao40 t330.length co40)) (fun _ hk => hk.2) (.int .i64 t333)) (fun _ hk => hk.2) (.int .i64 t334)) (fun _ hk => hk.2) (.int .i64 t335)) (fun _ hk => hk.2) (.int .i64 t336)) (fun _ h_ => h_.1))) (Kd.R_base ho0) hb); have n4_ := Aside0.mk (Kd.R_elder' (by (with_reducible repeat (first | apply Kd.R_alloc | apply Kd.R_drewN | apply Kd.R_drew)); exact (Kd.R_mono (Kd.R_far (p := ⟨gb337, 4, none⟩) (Kd.R_far (p := ⟨gb337, 3, none⟩) (Kd.R_far (p := ⟨gb337, 2, none⟩) (Kd.R_far (p := ⟨gb337, 1, none⟩) (Kd.R_far (p := ⟨gb337, 0, none⟩) (Kd.R_types HO332.out BK337.out (by decide)) (fun _ hk => hk.2) (.slice Ao40 t330.length co40)) (fun _ hk => hk.2) (.int .i64 t333)) (fun _ hk => hk.2) (.int .i64 t334)) (fun _ hk => hk.2) (.int .i64 t335)) (fun _ hk => hk.2) (.int .i64 t336)) (fun _ h_ => h_.1))) (Kd.R_base ho0) hb); have n5_ := Aside0.mk (Kd.R_lower (Kd.R_new' (Kd.R_new' (Kd.R_new' (Kd.R_new' (Kd.R_new' ho0 (Kd.R_lt (by (with_reducible repeat (first | apply Kd.R_alloc | apply Kd.R_drewN | apply Kd.R_drew)); exact (Kd.R_mono (Kd.R_far (p := ⟨gb337, 4, none⟩) (Kd.R_far (p := ⟨gb337, 3, none⟩) (Kd.R_far (p := ⟨gb337, 2, none⟩) (Kd.R_far (p := ⟨gb337, 1, none⟩) (Kd.R_far (p := ⟨gb337, 0, none⟩) (Kd.R_types HO316.out BK337.out (by decide)) (fun _ hk => hk.2) (.slice Ao40 t330.length co40)) (fun _ hk => hk.2) (.int .i64 t333)) (fun _ hk => hk.2) (.int .i64 t334)) (fun _ hk => hk.2) (.int .i64 t335)) (fun _ hk => hk.2) (.int .i64 t336)) (fun _ h_ => h_.1))))) (Kd.R_lt (by (with_reducible repeat (first | apply Kd.R_alloc | apply Kd.R_drewN | apply Kd.R_drew)); exact (Kd.R_mono (Kd.R_far (p := ⟨gb337, 4, none⟩) (Kd.R_far (p := ⟨gb337, 3, none⟩) (Kd.R_far (p := ⟨gb337, 2, none⟩) (Kd.R_far (p := ⟨gb337, 1, none⟩) (Kd.R_far (p := ⟨gb337, 0, none⟩) (Kd.R_types HO319.out BK337.out (by decide)) (fun _ hk => hk.2) (.slice Ao40 t330.length co40)) (fun _ hk => hk.2) (.int .i64 t333)) (fun _ hk => hk.2) (.int .i64 t334)) (fun _ hk => hk.2) (.int .i64 t335)) (fun _ hk => hk.2) (.int .i64 t336)) (fun _ h_ => h_.1))))) (Kd.R_lt (by (with_reducible repeat (first | apply Kd.R_alloc | apply Kd.R_drewN | apply Kd.R_drew)); exact (Kd.R_mono (Kd.R_far (p := ⟨gb337, 4, none⟩) (Kd.R_far (p := ⟨gb337, 3, none⟩) (Kd.R_far (p := ⟨gb337, 2, none⟩) (Kd.R_far (p := ⟨gb337, 1, none⟩) (Kd.R_far (p := ⟨gb337, 0, none⟩) (Kd.R_types HO326.out BK337.out (by decide)) (fun _ hk => hk.2) (.slice Ao40 t330.length co40)) (fun _ hk => hk.2) (.int .i64 t333)) (fun _ hk => hk.2) (.int .i64 t334)) (fun _ hk => hk.2) (.int .i64 t335)) (fun _ hk => hk.2) (.int .i64 t336)) (fun _ h_ => h_.1))))) (Kd.R_lt (by (with_reducible repeat (first | apply Kd.R_alloc | apply Kd.R_drewN | apply Kd.R_drew)); exact (Kd.R_mono (Kd.R_far (p := ⟨gb337, 4, none⟩) (Kd.R_far (p := ⟨gb337, 3, none⟩) (Kd.R_far (p := ⟨gb337, 2, none⟩) (Kd.R_far (p := ⟨gb337, 1, none⟩) (Kd.R_far (p := ⟨gb337, 0, none⟩) (Kd.R_types HO329.out BK337.out (by decide)) (fun _ hk => hk.2) (.slice Ao40 t330.length co40)) (fun _ hk => hk.2) (.int .i64 t333)) (fun _ hk => hk.2) (.int .i64 t334)) (fun _ hk => hk.2) (.int .i64 t335)) (fun _ hk => hk.2) (.int .i64 t336)) (fun _ h_ => h_.1))))) (Kd.R_lt (by (with_reducible repeat (first | apply Kd.R_alloc | apply Kd.R_drewN | apply Kd.R_drew)); exact (Kd.R_mono (Kd.R_far (p := ⟨gb337, 4, none⟩) (Kd.R_far (p := ⟨gb337, 3, none⟩) (Kd.R_far (p := ⟨gb337, 2, none⟩) (Kd.R_far (p := ⟨gb337, 1, none⟩) (Kd.R_far (p := ⟨gb337, 0, none⟩) (Kd.R_types HO332.out BK337.out (by decide)) (fun _ hk => hk.2) (.slice Ao40 t330.length co40)) (fun _ hk => hk.2) (.int .i64 t333)) (fun _ hk => hk.2) (.int .i64 t334)) (fun _ hk => hk.2) (.int .i64 t335)) (fun _ hk => hk.2) (.int .i64 t336)) (fun _ h_ => h_.1))))) (below_size (by repeat (first | (with_reducible first | exact HB.out | apply below_alloc | apply pw_below_drewN | apply below_drew1 | refine below_set ?_ GE312.out | refine below_set ?_ GE337.out) | exact HB.out)))); have n6_ := Aside0.mk (blk_below (g := gb312) (o := .cells #[.slice A1_0 l1_0.length c1_0, .int .i64 a1_1, .int .i64 a1_2, .int .i64 a1_3, .int .i64 a1_4] 24 (0, 0)) (by (with_reducible repeat (first | refine blk_drewN ?_ _ | refine blk_drew ?_ | refine blk_alloc ?_ _)); refine blk_far ?_ NB312_337.out _; (with_reducible repeat (first | refine blk_drewN ?_ _ | refine blk_drew ?_ | refine blk_alloc ?_ _)); refine blk_far ?_ NB312_337.out _; (with_reducible repeat (first | refine blk_drewN ?_ _ | refine blk_drew ?_ | refine blk_alloc ?_ _)); refine blk_far ?_ NB312_337.out _; (with_reducible repeat (first | refine blk_drewN ?_ _ | refine blk_drew ?_ | refine blk_alloc ?_ _)); refine blk_far ?_ NB312_337.out _; (with_reducible repeat (first | refine blk_drewN ?_ _ | refine blk_drew ?_ | refine blk_alloc ?_ _)); refine blk_far ?_ NB312_337.out _; (with_reducible repeat (first | refine blk_drewN ?_ _ | refine blk_drew ?_ | refine blk_alloc ?_ _)); exact BK312.out) hb); have n7_ := Aside0.mk (blk_below (g := gb337) (o := .cells #[.slice Ao40 t330.length co40, .int .i64 t333, .int .i64 t334, .int .i64 t335, .int .i64 t336] 28 (0, 0)) (by (with_reducible repeat (first | refine blk_drewN ?_ _ | refine blk_drew ?_ | refine blk_alloc ?_ _)); refine blk_put (cs := #[.slice Ao40 t330.length co40, .int .i64 t333, .int .i64 t334, .int .i64 t335, .int .i64 0]) ?_ 4 _ rfl; (with_reducible repeat (first | refine blk_drewN ?_ _ | refine blk_drew ?_ | refine blk_alloc ?_ _)); refine blk_put (cs := #[.slice Ao40 t330.length co40, .int .i64 t333, .int .i64 t334, .int .i64 0, .int .i64 0]) ?_ 3 _ rfl; (with_reducible repeat (first | refine blk_drewN ?_ _ | refine blk_drew ?_ | refine blk_alloc ?_ _)); refine blk_put (cs := #[.slice Ao40 t330.length co40, .int .i64 t333, .int .i64 0, .int .i64 0, .int .i64 0]) ?_ 2 _ rfl; (with_reducible repeat (first | refine blk_drewN ?_ _ | refine blk_drew ?_ | refine blk_alloc ?_ _)); refine blk_put (cs := #[.slice Ao40 t330.length co40, .int .i64 0, .int .i64 0, .int .i64 0, .int .i64 0]) ?_ 1 _ rfl; (with_reducible repeat (first | refine blk_drewN ?_ _ | refine blk_drew ?_ | refine blk_alloc ?_ _)); refine blk_put (cs := #[.slice none 0 0, .int .i64 0, .int .i64 0, .int .i64 0, .int .i64 0]) ?_ 0 _ rfl; (with_reducible repeat (first | refine blk_drewN ?_ _ | refine blk_drew ?_ | refine blk_alloc ?_ _)); exact BK337.out) hb); have n8_ := Aside0.mk (below_step (by repeat (first | (with_reducible first | exact HB.out | apply below_alloc | apply pw_below_drewN | apply below_drew1 | refine below_set ?_ GE312.out | refine below_set ?_ GE337.out) | exact HB.out)) hb); clear HO316; clear HO319; clear HO326; clear HO329; clear HO332; clear BK312; clear BK337; clear HB; have HO316 := n0_; have HO319 := n1_; have HO326 := n2_; have HO329 := n3_; have HO332 := n4_; have HO340 := n5_; have BK312 := n6_; have BK337 := n7_; have HB := n8_; clear n0_ n1_ n2_ n3_ n4_ n5_ n6_ n7_ n8_; (try clear hb); (try clear hb2); (try clear hk); (try clear hi); (try clear ho0); obtain ⟨Ao45, co45, eo45⟩ := Kd.R_slice HO340.out; subst eo45; obtain ⟨Ao46, co46, eo46⟩ := Kd.R_slice HO326.out; subst eo46) | ((with_reducible refine gate_callee (f := 20) rfl ?_); refine goesL_ (some 36) rfl rfl Try.func20 (by kernel_rfl) rfl #[.slice Ao45 t338.length co45, .slice Ao46 t324.length co46] rfl (by (try simp only [List.map_toArray, List.map_cons, List.map_nil]); first | done | rfl | (simp only [List.length_drop, List.length_take]; rfl)) ?_; (with_reducible refine (laws_eqIntS.calls k _ _ t338 _ _ t324 true _ ?side1 ?side2 ?side3 ?side4 A16.out).mono ?_); (case side1 => repeat (first | exact (Kd.R_reads' HO340.out).2.2 | (with_reducible refine Kd.C_alloc ?_ _) | (with_reducible refine Kd.C_drewN ?_ _) | (with_reducible refine Kd.C_drew ?_))); (case side2 => exact (Kd.R_reads' HO340.out).2.1); (case side3 => repeat (first | exact (Kd.R_reads' HO326.out).2.2 | (with_reducible refine Kd.C_alloc ?_ _) | (with_reducible refine Kd.C_drewN ?_ _) | (with_reducible refine Kd.C_drew ?_))); (case side4 => exact (Kd.R_reads' HO326.out).2.1); rintro e w' ⟨rfl, ⟨nd, rfl⟩⟩; refine ⟨_, rfl, ?_⟩) | ((with_reducible refine gate_callee (f := 17) rfl ?_); refine goesL_ (some 40) rfl rfl Try.func17 (by kernel_rfl) rfl #[.slice A0 l0.length c0] rfl (by (try simp only [List.map_toArray, List.map_cons, List.map_nil]); first | done | rfl | (simp only [List.length_drop, List.length_take]; rfl)) ?_; (with_reducible refine (laws_toIntS.calls k _ _ l0 t342 _ ?side1 ?side2 A18.out).mono ?_); (case side1 => repeat (first | exact (Kd.C_below HR0.out (by repeat (first | (with_reducible first | exact HB.out | apply below_alloc | apply pw_below_drewN | apply below_drew1 | refine below_set ?_ GE312.out | refine below_set ?_ GE337.out) | exact HB.out))) | (with_reducible refine Kd.C_alloc ?_ _) | (with_reducible refine Kd.C_drewN ?_ _) | (with_reducible refine Kd.C_drew ?_))); (case side2 => exact HC0.out); rintro e w47 ⟨v343, rfl, ho0, hb⟩; refine ⟨_, rfl, ?_⟩; have n0_ := Aside0.mk (Kd.R_elder' (by (with_reducible repeat (first | apply Kd.R_alloc | apply Kd.R_drewN | apply Kd.R_drew)); exact HO316.out) (Kd.R_base ho0) hb); have n1_ := Aside0.mk (Kd.R_elder' (by (with_reducible repeat (first | apply Kd.R_alloc | apply Kd.R_drewN | apply Kd.R_drew)); exact HO319.out) (Kd.R_base ho0) hb); have n2_ := Aside0.mk (Kd.R_elder' (by (with_reducible repeat (first | apply Kd.R_alloc | apply Kd.R_drewN | apply Kd.R_drew)); exact HO326.out) (Kd.R_base ho0) hb); have n3_ := Aside0.mk (Kd.R_elder' (by (with_reducible repeat (first | apply Kd.R_alloc | apply Kd.R_drewN | apply Kd.R_drew)); exact HO329.out) (Kd.R_base ho0) hb); have n4_ := Aside0.mk (Kd.R_elder' (by (with_reducible repeat (first | apply Kd.R_alloc | apply Kd.R_drewN | apply Kd.R_drew)); exact HO332.out) (Kd.R_base ho0) hb); have n5_ := Aside0.mk (Kd.R_elder' (by (with_reducible repeat (first | apply Kd.R_alloc | apply Kd.R_drewN | apply Kd.R_drew)); exact HO340.out) (Kd.R_base ho0) hb); have n6_ := Aside0.mk (Kd.R_lower (Kd.R_new' (Kd.R_new' (Kd.R_new' (Kd.R_new' (Kd.R_new' (Kd.R_new' ho0 (Kd.R_lt (by (with_reducible repeat (first | apply Kd.R_alloc | apply Kd.R_drewN | apply Kd.R_drew)); exact HO316.out))) (Kd.R_lt (by (with_reducible repeat (first | apply Kd.R_alloc | apply Kd.R_drewN | apply Kd.R_drew)); exact HO319.out))) (Kd.R_lt (by (with_reducible repeat (first | apply Kd.R_alloc | apply Kd.R_drewN | apply Kd.R_drew)); exact HO326.out))) (Kd.R_lt (by (with_reducible repeat (first | apply Kd.R_alloc | apply Kd.R_drewN | apply Kd.R_drew)); exact HO329.out))) (Kd.R_lt (by (with_reducible repeat (first | apply Kd.R_alloc | apply Kd.R_drewN | apply Kd.R_drew)); exact HO332.out))) (Kd.R_lt (by (with_reducible repeat (first | apply Kd.R_alloc | apply Kd.R_drewN | apply Kd.R_drew)); exact HO340.out))) (below_size (by repeat (first | (with_reducible first | exact HB.out | apply below_alloc | apply pw_below_drewN | apply below_drew1 | refine below_set ?_ GE312.out | refine below_set ?_ GE337.out) | exact HB.out)))); have n7_ := Aside0.mk (blk_below (g := gb312) (o := .cells #[.slice A1_0 l1_0.length c1_0, .int .i64 a1_1, .int .i64 a1_2, .int .i64 a1_3, .int .i64 a1_4] 24 (0, 0)) (by (with_reducible repeat (first | refine blk_drewN ?_ _ | refine blk_drew ?_ | refine blk_alloc ?_ _)); exact BK312.out) hb); have n8_ := Aside0.mk (blk_below (g := gb337) (o := .cells #[.slice Ao40 t330.length co40, .int .i64 t333, .int .i64 t334, .int .i64 t335, .int .i64 t336] 28 (0, 0)) (by (with_reducible repeat (first | refine blk_drewN ?_ _ | refine blk_drew ?_ | refine blk_alloc ?_ _)); exact BK337.out) hb); have n9_ := Aside0.mk (below_step (by repeat (first | (with_reducible first | exact HB.out | apply below_alloc | apply pw_below_drewN | apply below_drew1 | refine below_set ?_ GE312.out | refine below_set ?_ GE337.out) | exact HB.out)) hb); clear HO316; clear HO319; clear HO326; clear HO329; clear HO332; clear HO340; clear BK312; clear BK337; clear HB; have HO316 := n0_; have HO319 := n1_; have HO326 := n2_; have HO329 := n3_; have HO332 := n4_; have HO340 := n5_; have HO344 := n6_; have BK312 := n7_; have BK337 := n8_; have HB := n9_; clear n0_ n1_ n2_ n3_ n4_ n5_ n6_ n7_ n8_ n9_; (try clear hb); (try clear hb2); (try clear hk); (try clear hi); (try clear ho0); obtain ⟨Ao48, co48, eo48⟩ := Kd.R_slice HO344.out; subst eo48) | ((with_reducible refine gate_callee (f := 20) rfl ?_); refine goesL_ (some 41) rfl rfl Try.func20 (by kernel_rfl) rfl #[.slice Ao43 t327.length co43, .slice Ao48 t342.length co48] rfl (by (try simp only [List.map_toArray, List.map_cons, List.map_nil]); first | done | rfl | (simp only [List.length_drop, List.length_take]; rfl)) ?_; (with_reducible refine (laws_eqIntS.calls k _ _ t327 _ _ t342 true _ ?side1 ?side2 ?side3 ?side4 A19.out).mono ?_); (case side1 => repeat (first | exact (Kd.R_reads' HO329.out).2.2 | (with_reducible refine Kd.C_alloc ?_ _) | (with_reducible refine Kd.C_drewN ?_ _) | (with_reducible refine Kd.C_drew ?_))); (case side2 => exact (Kd.R_reads' HO329.out).2.1); (case side3 => repeat (first | exact (Kd.R_reads' HO344.out).2.2 | (with_reducible refine Kd.C_alloc ?_ _) | (with_reducible refine Kd.C_drewN ?_ _) | (with_reducible refine Kd.C_drew ?_))); (case side4 => exact (Kd.R_reads' HO344.out).2.1); rintro e w' ⟨rfl, ⟨nd, rfl⟩⟩; refine ⟨_, rfl, ?_⟩))
            (try (rw [drewN_self w47]; generalize hq_ : World.drewN w47 _ = w47; have n0_ : Aside0 (Kd.R (Kd.int .i64) 3 w47 w.heap.size (fun k_ => some k_ ≠ (.slice Ao34 t317.length co34 : Value).ownBlock ∧ some k_ ≠ (.slice Ao46 t324.length co46 : Value).ownBlock ∧ some k_ ≠ (.slice Ao43 t327.length co43 : Value).ownBlock ∧ some k_ ≠ (.slice Ao40 t330.length co40 : Value).ownBlock ∧ some k_ ≠ (.slice Ao45 t338.length co45 : Value).ownBlock ∧ some k_ ≠ (.slice Ao48 t342.length co48 : Value).ownBlock) (.slice Ao33 t314.length co33) t314) := ⟨by rw [← hq_]; exact (by (with_reducible repeat (first | apply Kd.R_alloc | apply Kd.R_drewN | apply Kd.R_drew)); exact Kd.R_mono HO316.out (fun _ hk => by simp only [ne_eq, hk, not_false_eq_true, and_self]))⟩; have n1_ : Aside0 (Kd.R (Kd.int .i64) 3 w47 w.heap.size (fun k_ => some k_ ≠ (.slice Ao33 t314.length co33 : Value).ownBlock ∧ some k_ ≠ (.slice Ao46 t324.length co46 : Value).ownBlock ∧ some k_ ≠ (.slice Ao43 t327.length co43 : Value).ownBlock ∧ some k_ ≠ (.slice Ao40 t330.length co40 : Value).ownBlock ∧ some k_ ≠ (.slice Ao45 t338.length co45 : Value).ownBlock ∧ some k_ ≠ (.slice Ao48 t342.length co48 : Value).ownBlock) (.slice Ao34 t317.length co34) t317) := ⟨by rw [← hq_]; exact (by (with_reducible repeat (first | apply Kd.R_alloc | apply Kd.R_drewN | apply Kd.R_drew)); exact Kd.R_mono HO319.out (fun _ hk => by simp only [ne_eq, hk, not_false_eq_true, and_self]))⟩; have n2_ : Aside0 (Kd.R (Kd.int .i64) 3 w47 w.heap.size (fun k_ => some k_ ≠ (.slice Ao33 t314.length co33 : Value).ownBlock ∧ some k_ ≠ (.slice Ao34 t317.length co34 : Value).ownBlock ∧ some k_ ≠ (.slice Ao43 t327.length co43 : Value).ownBlock ∧ some k_ ≠ (.slice Ao40 t330.length co40 : Value).ownBlock ∧ some k_ ≠ (.slice Ao45 t338.length co45 : Value).ownBlock ∧ some k_ ≠ (.slice Ao48 t342.length co48 : Value).ownBlock) (.slice Ao46 t324.length co46) t324) := ⟨by rw [← hq_]; exact (by (with_reducible repeat (first | apply Kd.R_alloc | apply Kd.R_drewN | apply Kd.R_drew)); exact Kd.R_mono HO326.out (fun _ hk => by simp only [ne_eq, hk, not_false_eq_true, and_self]))⟩; have n3_ : Aside0 (Kd.R (Kd.int .i64) 3 w47 w.heap.size (fun k_ => some k_ ≠ (.slice Ao33 t314.length co33 : Value).ownBlock ∧ some k_ ≠ (.slice Ao34 t317.length co34 : Value).ownBlock ∧ some k_ ≠ (.slice Ao46 t324.length co46 : Value).ownBlock ∧ some k_ ≠ (.slice Ao40 t330.length co40 : Value).ownBlock ∧ some k_ ≠ (.slice Ao45 t338.length co45 : Value).ownBlock ∧ some k_ ≠ (.slice Ao48 t342.length co48 : Value).ownBlock) (.slice Ao43 t327.length co43) t327) := ⟨by rw [← hq_]; exact (by (with_reducible repeat (first | apply Kd.R_alloc | apply Kd.R_drewN | apply Kd.R_drew)); exact Kd.R_mono HO329.out (fun _ hk => by simp only [ne_eq, hk, not_false_eq_true, and_self]))⟩; have n4_ : Aside0 (Kd.R (Kd.int .i64) 3 w47 w.heap.size (fun k_ => some k_ ≠ (.slice Ao33 t314.length co33 : Value).ownBlock ∧ some k_ ≠ (.slice Ao34 t317.length co34 : Value).ownBlock ∧ some k_ ≠ (.slice Ao46 t324.length co46 : Value).ownBlock ∧ some k_ ≠ (.slice Ao43 t327.length co43 : Value).ownBlock ∧ some k_ ≠ (.slice Ao45 t338.length co45 : Value).ownBlock ∧ some k_ ≠ (.slice Ao48 t342.length co48 : Value).ownBlock) (.slice Ao40 t330.length co40) t330) := ⟨by rw [← hq_]; exact (by (with_reducible repeat (first | apply Kd.R_alloc | apply Kd.R_drewN | apply Kd.R_drew)); exact Kd.R_mono HO332.out (fun _ hk => by simp only [ne_eq, hk, not_false_eq_true, and_self]))⟩; have n5_ : Aside0 (Kd.R (Kd.int .i64) 3 w47 w.heap.size (fun k_ => some k_ ≠ (.slice Ao33 t314.length co33 : Value).ownBlock ∧ some k_ ≠ (.slice Ao34 t317.length co34 : Value).ownBlock ∧ some k_ ≠ (.slice Ao46 t324.length co46 : Value).ownBlock ∧ some k_ ≠ (.slice Ao43 t327.length co43 : Value).ownBlock ∧ some k_ ≠ (.slice Ao40 t330.length co40 : Value).ownBlock ∧ some k_ ≠ (.slice Ao48 t342.length co48 : Value).ownBlock) (.slice Ao45 t338.length co45) t338) := ⟨by rw [← hq_]; exact (by (with_reducible repeat (first | apply Kd.R_alloc | apply Kd.R_drewN | apply Kd.R_drew)); exact Kd.R_mono HO340.out (fun _ hk => by simp only [ne_eq, hk, not_false_eq_true, and_self]))⟩; have n6_ : Aside0 (Kd.R (Kd.int .i64) 3 w47 w.heap.size (fun k_ => some k_ ≠ (.slice Ao33 t314.length co33 : Value).ownBlock ∧ some k_ ≠ (.slice Ao34 t317.length co34 : Value).ownBlock ∧ some k_ ≠ (.slice Ao46 t324.length co46 : Value).ownBlock ∧ some k_ ≠ (.slice Ao43 t327.length co43 : Value).ownBlock ∧ some k_ ≠ (.slice Ao40 t330.length co40 : Value).ownBlock ∧ some k_ ≠ (.slice Ao45 t338.length co45 : Value).ownBlock) (.slice Ao48 t342.length co48) t342) := ⟨by rw [← hq_]; exact (by (with_reducible repeat (first | apply Kd.R_alloc | apply Kd.R_drewN | apply Kd.R_drew)); exact Kd.R_mono HO344.out (fun _ hk => by simp only [ne_eq, hk, not_false_eq_true, and_self]))⟩; have n7_ : Aside0 (w47.heap[gb312]? = some (.cells #[.slice A1_0 l1_0.length c1_0, .int .i64 a1_1, .int .i64 a1_2, .int .i64 a1_3, .int .i64 a1_4] 24 (0, 0))) := ⟨by rw [← hq_]; exact (by (with_reducible repeat (first | refine blk_drewN ?_ _ | refine blk_drew ?_ | refine blk_alloc ?_ _)); exact BK312.out)⟩; have n8_ : Aside0 (w47.heap[gb337]? = some (.cells #[.slice Ao40 t330.length co40, .int .i64 t333, .int .i64 t334, .int .i64 t335, .int .i64 t336] 28 (0, 0))) := ⟨by rw [← hq_]; exact (by (with_reducible repeat (first | refine blk_drewN ?_ _ | refine blk_drew ?_ | refine blk_alloc ?_ _)); exact BK337.out)⟩; have n9_ : Aside0 (Below w.heap.size w w47) := ⟨by rw [← hq_]; exact (by repeat (first | (with_reducible first | exact HB.out | apply below_alloc | apply pw_below_drewN | apply below_drew1 | refine below_set ?_ GE312.out | refine below_set ?_ GE337.out) | exact HB.out))⟩; clear HO316 HO319 HO326 HO329 HO332 HO340 HO344 BK312 BK337 HB hq_; have HO316 := n0_; have HO319 := n1_; have HO326 := n2_; have HO329 := n3_; have HO332 := n4_; have HO340 := n5_; have HO344 := n6_; have BK312 := n7_; have BK337 := n8_; have HB := n9_; clear n0_ n1_ n2_ n3_ n4_ n5_ n6_ n7_ n8_ n9_))
            have n0_ := Aside0.mk (Kd.R_drew HO316.out)
            have n1_ := Aside0.mk (Kd.R_drew HO319.out)
            have n2_ := Aside0.mk (Kd.R_drew HO326.out)
            have n3_ := Aside0.mk (Kd.R_drew HO329.out)
            have n4_ := Aside0.mk (Kd.R_drew HO332.out)
            have n5_ := Aside0.mk (Kd.R_drew HO340.out)
            have n6_ := Aside0.mk (Kd.R_drew HO344.out)
            have n7_ := Aside0.mk (blk_drew BK312.out)
            have n8_ := Aside0.mk (blk_drew BK337.out)
            have n9_ := Aside0.mk (below_drew1 HB.out)
            clear HO316
            clear HO319
            clear HO326
            clear HO329
            clear HO332
            clear HO340
            clear HO344
            clear BK312
            clear BK337
            clear HB
            have HO316 := n0_
            have HO319 := n1_
            have HO326 := n2_
            have HO329 := n3_
            have HO332 := n4_
            have HO340 := n5_
            have HO344 := n6_
            have BK312 := n7_
            have BK337 := n8_
            have HB := n9_
            clear n0_ n1_ n2_ n3_ n4_ n5_ n6_ n7_ n8_ n9_
            refine start_ (n := 5) (S := fun w' => w'.cell? ⟨gb337, 0, none⟩ = some (.slice Ao40 t330.length co40) ∧ w'.cell? ⟨gb337, 1, none⟩ = some (.int .i64 t333) ∧ w'.cell? ⟨gb337, 2, none⟩ = some (.int .i64 t334) ∧ w'.cell? ⟨gb337, 3, none⟩ = some (.int .i64 t335) ∧ w'.cell? ⟨gb337, 4, none⟩ = some (.int .i64 t336) ∧ w'.cell? ⟨gb312, 0, none⟩ = some (.slice A1_0 l1_0.length c1_0) ∧ w'.cell? ⟨gb312, 1, none⟩ = some (.int .i64 a1_1) ∧ w'.cell? ⟨gb312, 2, none⟩ = some (.int .i64 a1_2) ∧ w'.cell? ⟨gb312, 3, none⟩ = some (.int .i64 a1_3) ∧ w'.cell? ⟨gb312, 4, none⟩ = some (.int .i64 a1_4)) (ds := []) #[false, false, false, false, false] (by kernel_rfl) rfl rfl ⟨(blk_cell BK337.out 0).trans rfl, (blk_cell BK337.out 1).trans rfl, (blk_cell BK337.out 2).trans rfl, (blk_cell BK337.out 3).trans rfl, (blk_cell BK337.out 4).trans rfl, (blk_cell BK312.out 0).trans rfl, (blk_cell BK312.out 1).trans rfl, (blk_cell BK312.out 2).trans rfl, (blk_cell BK312.out 3).trans rfl, (blk_cell BK312.out 4).trans rfl⟩ (fun hHeld => ?_)
            generalize w47.drew = w49 at HO316 HO319 HO326 HO329 HO332 HO340 HO344 BK312 BK337 HB hHeld ⊢
            refine take_ (i := 0) (N := some 43) (v := ?_) (a' := ?_) #[true, false, false, false, false] rfl rfl (by kernel_rfl) (fun _ _ _ h => h) (Or.inl ⟨by rfl, ?_⟩) hHeld ?_ ?_
            rotate_left
            · rintro w' ⟨s0, s1, s2, s3, s4, s5, s6, s7, s8, s9⟩
              go_simp
              with_reducible rfl
            rotate_left
            · simp only [Act.put, List.setIfInBounds_toArray, List.set_cons_zero, List.set_cons_succ, i64_w, i32_w]
              rfl
            refine take_ (i := 1) (N := some 44) (v := ?_) (a' := ?_) #[true, true, false, false, false] rfl rfl (by kernel_rfl) (fun _ _ _ h => h) (Or.inl ⟨by rfl, ?_⟩) hHeld ?_ ?_
            rotate_left
            · rintro w' ⟨s0, s1, s2, s3, s4, s5, s6, s7, s8, s9⟩
              go_simp
              with_reducible rfl
            rotate_left
            · simp only [Act.put, List.setIfInBounds_toArray, List.set_cons_zero, List.set_cons_succ, i64_w, i32_w]
              rfl
            refine one_ (i := 2) (N := some 45) #[true, true, true, false, false] rfl rfl (by kernel_rfl) (by decide) (fun K hK => ?_)
            refine goes_ Try.func18 (by kernel_rfl) rfl #[.agg #[.slice A1_0 l1_0.length c1_0, .int .i64 a1_1, .int .i64 a1_2, .int .i64 a1_3, .int .i64 a1_4]] (by rfl) rfl rfl (by (try simp only [List.map_toArray, List.map_cons, List.map_nil]); first | done | rfl | (simp only [List.length_drop, List.length_take]; rfl)) ?_
            with_reducible refine (laws_toScan.calls k _ _ l1_0 a1_1 a1_2 a1_3 a1_4 t346 t349 t350 t351 t352 _ ?side1 ?side2 A21.out).mono ?_
            (case side1 => repeat (first | exact (Kd.C_below HR1_0.out HB.out) | (with_reducible refine Kd.C_alloc ?_ _) | (with_reducible refine Kd.C_drewN ?_ _) | (with_reducible refine Kd.C_drew ?_)))
            (case side2 => exact HC1_0.out)
            rintro e w50 ⟨v347, rfl, ho0, hb⟩
            refine ⟨_, rfl, ?_⟩
            have n0_ := Aside0.mk (Kd.R_elder' (by (with_reducible repeat (first | apply Kd.R_alloc | apply Kd.R_drewN | apply Kd.R_drew)); exact HO316.out) (Kd.R_base ho0) hb)
            have n1_ := Aside0.mk (Kd.R_elder' (by (with_reducible repeat (first | apply Kd.R_alloc | apply Kd.R_drewN | apply Kd.R_drew)); exact HO319.out) (Kd.R_base ho0) hb)
            have n2_ := Aside0.mk (Kd.R_elder' (by (with_reducible repeat (first | apply Kd.R_alloc | apply Kd.R_drewN | apply Kd.R_drew)); exact HO326.out) (Kd.R_base ho0) hb)
            have n3_ := Aside0.mk (Kd.R_elder' (by (with_reducible repeat (first | apply Kd.R_alloc | apply Kd.R_drewN | apply Kd.R_drew)); exact HO329.out) (Kd.R_base ho0) hb)
            have n4_ := Aside0.mk (Kd.R_elder' (by (with_reducible repeat (first | apply Kd.R_alloc | apply Kd.R_drewN | apply Kd.R_drew)); exact HO332.out) (Kd.R_base ho0) hb)
            have n5_ := Aside0.mk (Kd.R_elder' (by (with_reducible repeat (first | apply Kd.R_alloc | apply Kd.R_drewN | apply Kd.R_drew)); exact HO340.out) (Kd.R_base ho0) hb)
            have n6_ := Aside0.mk (Kd.R_elder' (by (with_reducible repeat (first | apply Kd.R_alloc | apply Kd.R_drewN | apply Kd.R_drew)); exact HO344.out) (Kd.R_base ho0) hb)
            have n7_ := Aside0.mk (Kd.R_lower (Kd.R_new' (Kd.R_new' (Kd.R_new' (Kd.R_new' (Kd.R_new' (Kd.R_new' (Kd.R_new' ho0 (Kd.R_lt (by (with_reducible repeat (first | apply Kd.R_alloc | apply Kd.R_drewN | apply Kd.R_drew)); exact HO316.out))) (Kd.R_lt (by (with_reducible repeat (first | apply Kd.R_alloc | apply Kd.R_drewN | apply Kd.R_drew)); exact HO319.out))) (Kd.R_lt (by (with_reducible repeat (first | apply Kd.R_alloc | apply Kd.R_drewN | apply Kd.R_drew)); exact HO326.out))) (Kd.R_lt (by (with_reducible repeat (first | apply Kd.R_alloc | apply Kd.R_drewN | apply Kd.R_drew)); exact HO329.out))) (Kd.R_lt (by (with_reducible repeat (first | apply Kd.R_alloc | apply Kd.R_drewN | apply Kd.R_drew)); exact HO332.out))) (Kd.R_lt (by (with_reducible repeat (first | apply Kd.R_alloc | apply Kd.R_drewN | apply Kd.R_drew)); exact HO340.out))) (Kd.R_lt (by (with_reducible repeat (first | apply Kd.R_alloc | apply Kd.R_drewN | apply Kd.R_drew)); exact HO344.out))) (below_size (by repeat (first | (with_reducible first | exact HB.out | apply below_alloc | apply pw_below_drewN | apply below_drew1 | refine below_set ?_ GE312.out | refine below_set ?_ GE337.out) | exact HB.out))))
            have n8_ := Aside0.mk (blk_below (g := gb312) (o := .cells #[.slice A1_0 l1_0.length c1_0, .int .i64 a1_1, .int .i64 a1_2, .int .i64 a1_3, .int .i64 a1_4] 24 (0, 0)) (by (with_reducible repeat (first | refine blk_drewN ?_ _ | refine blk_drew ?_ | refine blk_alloc ?_ _)); exact BK312.out) hb)
            have n9_ := Aside0.mk (blk_below (g := gb337) (o := .cells #[.slice Ao40 t330.length co40, .int .i64 t333, .int .i64 t334, .int .i64 t335, .int .i64 t336] 28 (0, 0)) (by (with_reducible repeat (first | refine blk_drewN ?_ _ | refine blk_drew ?_ | refine blk_alloc ?_ _)); exact BK337.out) hb)
            have n10_ := Aside0.mk (below_step (by repeat (first | (with_reducible first | exact HB.out | apply below_alloc | apply pw_below_drewN | apply below_drew1 | refine below_set ?_ GE312.out | refine below_set ?_ GE337.out) | exact HB.out)) hb)
            clear HO316
            clear HO319
            clear HO326
            clear HO329
            clear HO332
            clear HO340
            clear HO344
            clear BK312
            clear BK337
            clear HB
            have HO316 := n0_
            have HO319 := n1_
            have HO326 := n2_
            have HO329 := n3_
            have HO332 := n4_
            have HO340 := n5_
            have HO344 := n6_
            have HO348 := n7_
            have BK312 := n8_
            have BK337 := n9_
            have HB := n10_
            clear n0_ n1_ n2_ n3_ n4_ n5_ n6_ n7_ n8_ n9_ n10_
            (try clear hb)
            (try clear hb2)
            (try clear hk)
            (try clear hi)
            (try clear ho0)
            obtain ⟨Ao51, co51, eo51⟩ := Kd.R_slice HO348.out
            (first | subst eo51 | (injection eo51 with f1_ f2_ f3_; have f4_ := f1_.symm; have f5_ := f3_.symm; clear f1_ f2_ f3_; subst f4_; subst f5_))
            refine hK.out _ _ ⟨(blk_cell BK337.out 0).trans rfl, (blk_cell BK337.out 1).trans rfl, (blk_cell BK337.out 2).trans rfl, (blk_cell BK337.out 3).trans rfl, (blk_cell BK337.out 4).trans rfl, (blk_cell BK312.out 0).trans rfl, (blk_cell BK312.out 1).trans rfl, (blk_cell BK312.out 2).trans rfl, (blk_cell BK312.out 3).trans rfl, (blk_cell BK312.out 4).trans rfl⟩ (fun hHeld => ?_)
            clear hK K
            refine norm_ (a' := ?_) ?_ ?_
            rotate_left
            · show Act.put _ (some 45) _ = _
              simp only [Act.put, List.setIfInBounds_toArray, List.set_cons_zero, List.set_cons_succ, i64_w, i32_w]
              rfl
            refine one_ (i := 3) (N := some 46) #[true, true, true, true, false] rfl rfl (by kernel_rfl) (by decide) (fun K hK => ?_)
            refine goes_ Try.func21 (by kernel_rfl) rfl #[.agg #[.slice Ao40 t330.length co40, .int .i64 t333, .int .i64 t334, .int .i64 t335, .int .i64 t336], .agg #[.slice Ao51 t346.length co51, .int .i64 t349, .int .i64 t350, .int .i64 t351, .int .i64 t352]] (by rfl) rfl rfl (by (try simp only [List.map_toArray, List.map_cons, List.map_nil]); first | done | rfl | (simp only [List.length_drop, List.length_take]; rfl)) ?_
            with_reducible refine (laws_eqScan.calls k _ _ t330 t333 t334 t335 t336 _ _ t346 t349 t350 t351 t352 true _ ?side1 ?side2 ?side3 ?side4 A22.out).mono ?_
            (case side1 => repeat (first | exact (Kd.R_reads' HO332.out).2.2 | (with_reducible refine Kd.C_alloc ?_ _) | (with_reducible refine Kd.C_drewN ?_ _) | (with_reducible refine Kd.C_drew ?_)))
            (case side2 => exact (Kd.R_reads' HO332.out).2.1)
            (case side3 => repeat (first | exact (Kd.R_reads' HO348.out).2.2 | (with_reducible refine Kd.C_alloc ?_ _) | (with_reducible refine Kd.C_drewN ?_ _) | (with_reducible refine Kd.C_drew ?_)))
            (case side4 => exact (Kd.R_reads' HO348.out).2.1)
            rintro e w52 ⟨rfl, hb⟩
            refine ⟨_, rfl, ?_⟩
            have n0_ := Aside0.mk (Kd.R_below (by (with_reducible repeat (first | apply Kd.R_alloc | apply Kd.R_drewN | apply Kd.R_drew)); exact HO316.out) hb)
            have n1_ := Aside0.mk (Kd.R_below (by (with_reducible repeat (first | apply Kd.R_alloc | apply Kd.R_drewN | apply Kd.R_drew)); exact HO319.out) hb)
            have n2_ := Aside0.mk (Kd.R_below (by (with_reducible repeat (first | apply Kd.R_alloc | apply Kd.R_drewN | apply Kd.R_drew)); exact HO326.out) hb)
            have n3_ := Aside0.mk (Kd.R_below (by (with_reducible repeat (first | apply Kd.R_alloc | apply Kd.R_drewN | apply Kd.R_drew)); exact HO329.out) hb)
            have n4_ := Aside0.mk (Kd.R_below (by (with_reducible repeat (first | apply Kd.R_alloc | apply Kd.R_drewN | apply Kd.R_drew)); exact HO332.out) hb)
            have n5_ := Aside0.mk (Kd.R_below (by (with_reducible repeat (first | apply Kd.R_alloc | apply Kd.R_drewN | apply Kd.R_drew)); exact HO340.out) hb)
            have n6_ := Aside0.mk (Kd.R_below (by (with_reducible repeat (first | apply Kd.R_alloc | apply Kd.R_drewN | apply Kd.R_drew)); exact HO344.out) hb)
            have n7_ := Aside0.mk (Kd.R_below (by (with_reducible repeat (first | apply Kd.R_alloc | apply Kd.R_drewN | apply Kd.R_drew)); exact HO348.out) hb)
            have n8_ := Aside0.mk (blk_below (g := gb312) (o := .cells #[.slice A1_0 l1_0.length c1_0, .int .i64 a1_1, .int .i64 a1_2, .int .i64 a1_3, .int .i64 a1_4] 24 (0, 0)) (by (with_reducible repeat (first | refine blk_drewN ?_ _ | refine blk_drew ?_ | refine blk_alloc ?_ _)); exact BK312.out) hb)
            have n9_ := Aside0.mk (blk_below (g := gb337) (o := .cells #[.slice Ao40 t330.length co40, .int .i64 t333, .int .i64 t334, .int .i64 t335, .int .i64 t336] 28 (0, 0)) (by (with_reducible repeat (first | refine blk_drewN ?_ _ | refine blk_drew ?_ | refine blk_alloc ?_ _)); exact BK337.out) hb)
            have n10_ := Aside0.mk (below_step (by repeat (first | (with_reducible first | exact HB.out | apply below_alloc | apply pw_below_drewN | apply below_drew1 | refine below_set ?_ GE312.out | refine below_set ?_ GE337.out) | exact HB.out)) hb)
            clear HO316
            clear HO319
            clear HO326
            clear HO329
            clear HO332
            clear HO340
            clear HO344
            clear HO348
            clear BK312
            clear BK337
            clear HB
            have HO316 := n0_
            have HO319 := n1_
            have HO326 := n2_
            have HO329 := n3_
            have HO332 := n4_
            have HO340 := n5_
            have HO344 := n6_
            have HO348 := n7_
            have BK312 := n8_
            have BK337 := n9_
            have HB := n10_
            clear n0_ n1_ n2_ n3_ n4_ n5_ n6_ n7_ n8_ n9_ n10_
            (try clear hb)
            (try clear hb2)
            (try clear hk)
            (try clear hi)
            refine hK.out _ _ ⟨(blk_cell BK337.out 0).trans rfl, (blk_cell BK337.out 1).trans rfl, (blk_cell BK337.out 2).trans rfl, (blk_cell BK337.out 3).trans rfl, (blk_cell BK337.out 4).trans rfl, (blk_cell BK312.out 0).trans rfl, (blk_cell BK312.out 1).trans rfl, (blk_cell BK312.out 2).trans rfl, (blk_cell BK312.out 3).trans rfl, (blk_cell BK312.out 4).trans rfl⟩ (fun hHeld => ?_)
            clear hK K
            refine norm_ (a' := ?_) ?_ ?_
            rotate_left
            · show Act.put _ (some 46) _ = _
              simp only [Act.put, List.setIfInBounds_toArray, List.set_cons_zero, List.set_cons_succ, i64_w, i32_w]
              rfl
            refine pure_ (i := 4) (N := some 47) (v := ?_) (a' := ?_) #[true, true, true, true, true] rfl rfl (by kernel_rfl) (fun _ _ _ h => h) (Or.inl ⟨by rfl, ?_⟩) ?_ ?_
            rotate_left
            · intro w'
              go_simp
              with_reducible rfl
            rotate_left
            · simp only [Act.put, List.setIfInBounds_toArray, List.set_cons_zero, List.set_cons_succ, i64_w, i32_w]
              rfl
            refine done_ (by kernel_rfl) ?_
            go_upto_region 20 with (first | ((with_reducible refine gate_callee (f := 22) rfl ?_); refine goesL_ (some 50) rfl rfl Try.func22 (by kernel_rfl) rfl #[.slice Ao43 t327.length co43, .int .i64 1] rfl (by (try simp only [List.map_toArray, List.map_cons, List.map_nil]); first | done | rfl | (simp only [List.length_drop, List.length_take]; rfl)) ?_; (with_reducible refine (laws_markIntS.calls k (fun k_ => some k_ = (.slice Ao43 t327.length co43 : Value).ownBlock) (.slice Ao43 t327.length co43) t327 1 t354 t355 w _ ?side1 ?side2 A24.out).mono ?_); (case side1 => repeat (first | (with_reducible first | exact HB.out | apply below_alloc | apply pw_below_drewN | apply below_drew1 | refine below_set ?_ GE312.out | refine below_set ?_ GE337.out) | exact HB.out)); (case side2 => exact Kd.R_tight rfl HO329.out); rintro e w53 ⟨rfl, hy0, hb, hkp⟩; refine ⟨_, rfl, ?_⟩; have n0_ := Aside0.mk (blk_kept (by (with_reducible repeat (first | refine blk_drewN ?_ _ | refine blk_drew ?_ | refine blk_alloc ?_ _)); exact BK312.out) hkp (fun hs_ => (fun e_ => (Kd.R_ne HO329.out BK312.out (by decide)) e_) hs_)); have n1_ := Aside0.mk (Kd.R_mono (ok' := fun k_ => some k_ ≠ (.slice Ao34 t317.length co34 : Value).ownBlock ∧ some k_ ≠ (.slice Ao46 t324.length co46 : Value).ownBlock ∧ some k_ ≠ (.slice Ao43 t327.length co43 : Value).ownBlock ∧ some k_ ≠ (.slice Ao40 t330.length co40 : Value).ownBlock ∧ some k_ ≠ (.slice Ao45 t338.length co45 : Value).ownBlock ∧ some k_ ≠ (.slice Ao48 t342.length co48 : Value).ownBlock ∧ some k_ ≠ (.slice Ao51 t346.length co51 : Value).ownBlock) (Kd.R_keptB (HO316.out) hkp (fun k_ hk_ hs_ => by simp only [ne_eq, hs_, not_true_eq_false, and_false, false_and] at hk_)) (fun k_ hk_ => by simp only [ne_eq, hk_, not_false_eq_true, and_self])); have n2_ := Aside0.mk (Kd.R_mono (ok' := fun k_ => some k_ ≠ (.slice Ao33 t314.length co33 : Value).ownBlock ∧ some k_ ≠ (.slice Ao46 t324.length co46 : Value).ownBlock ∧ some k_ ≠ (.slice Ao43 t327.length co43 : Value).ownBlock ∧ some k_ ≠ (.slice Ao40 t330.length co40 : Value).ownBlock ∧ some k_ ≠ (.slice Ao45 t338.length co45 : Value).ownBlock ∧ some k_ ≠ (.slice Ao48 t342.length co48 : Value).ownBlock ∧ some k_ ≠ (.slice Ao51 t346.length co51 : Value).ownBlock) (Kd.R_keptB (HO319.out) hkp (fun k_ hk_ hs_ => by simp only [ne_eq, hs_, not_true_eq_false, and_false, false_and] at hk_)) (fun k_ hk_ => by simp only [ne_eq, hk_, not_false_eq_true, and_self])); have n3_ := Aside0.mk (Kd.R_mono (ok' := fun k_ => some k_ ≠ (.slice Ao33 t314.length co33 : Value).ownBlock ∧ some k_ ≠ (.slice Ao34 t317.length co34 : Value).ownBlock ∧ some k_ ≠ (.slice Ao43 t327.length co43 : Value).ownBlock ∧ some k_ ≠ (.slice Ao40 t330.length co40 : Value).ownBlock ∧ some k_ ≠ (.slice Ao45 t338.length co45 : Value).ownBlock ∧ some k_ ≠ (.slice Ao48 t342.length co48 : Value).ownBlock ∧ some k_ ≠ (.slice Ao51 t346.length co51 : Value).ownBlock) (Kd.R_keptB (HO326.out) hkp (fun k_ hk_ hs_ => by simp only [ne_eq, hs_, not_true_eq_false, and_false, false_and] at hk_)) (fun k_ hk_ => by simp only [ne_eq, hk_, not_false_eq_true, and_self])); have n4_ := Aside0.mk (Kd.R_reok rfl hy0 (fun k_ e_ => HO329.out.1 k_ e_)); have n5_ := Aside0.mk (Kd.R_mono (ok' := fun k_ => some k_ ≠ (.slice Ao33 t314.length co33 : Value).ownBlock ∧ some k_ ≠ (.slice Ao34 t317.length co34 : Value).ownBlock ∧ some k_ ≠ (.slice Ao46 t324.length co46 : Value).ownBlock ∧ some k_ ≠ (.slice Ao43 t327.length co43 : Value).ownBlock ∧ some k_ ≠ (.slice Ao45 t338.length co45 : Value).ownBlock ∧ some k_ ≠ (.slice Ao48 t342.length co48 : Value).ownBlock ∧ some k_ ≠ (.slice Ao51 t346.length co51 : Value).ownBlock) (Kd.R_keptB (HO332.out) hkp (fun k_ hk_ hs_ => by simp only [ne_eq, hs_, not_true_eq_false, and_false, false_and] at hk_)) (fun k_ hk_ => by simp only [ne_eq, hk_, not_false_eq_true, and_self])); have n6_ := Aside0.mk (blk_kept (by (with_reducible repeat (first | refine blk_drewN ?_ _ | refine blk_drew ?_ | refine blk_alloc ?_ _)); exact BK337.out) hkp (fun hs_ => (fun e_ => (Kd.R_ne HO329.out BK337.out (by decide)) e_) hs_)); have n7_ := Aside0.mk (Kd.R_mono (ok' := fun k_ => some k_ ≠ (.slice Ao33 t314.length co33 : Value).ownBlock ∧ some k_ ≠ (.slice Ao34 t317.length co34 : Value).ownBlock ∧ some k_ ≠ (.slice Ao46 t324.length co46 : Value).ownBlock ∧ some k_ ≠ (.slice Ao43 t327.length co43 : Value).ownBlock ∧ some k_ ≠ (.slice Ao40 t330.length co40 : Value).ownBlock ∧ some k_ ≠ (.slice Ao48 t342.length co48 : Value).ownBlock ∧ some k_ ≠ (.slice Ao51 t346.length co51 : Value).ownBlock) (Kd.R_keptB (HO340.out) hkp (fun k_ hk_ hs_ => by simp only [ne_eq, hs_, not_true_eq_false, and_false, false_and] at hk_)) (fun k_ hk_ => by simp only [ne_eq, hk_, not_false_eq_true, and_self])); have n8_ := Aside0.mk (Kd.R_mono (ok' := fun k_ => some k_ ≠ (.slice Ao33 t314.length co33 : Value).ownBlock ∧ some k_ ≠ (.slice Ao34 t317.length co34 : Value).ownBlock ∧ some k_ ≠ (.slice Ao46 t324.length co46 : Value).ownBlock ∧ some k_ ≠ (.slice Ao43 t327.length co43 : Value).ownBlock ∧ some k_ ≠ (.slice Ao40 t330.length co40 : Value).ownBlock ∧ some k_ ≠ (.slice Ao45 t338.length co45 : Value).ownBlock ∧ some k_ ≠ (.slice Ao51 t346.length co51 : Value).ownBlock) (Kd.R_keptB (HO344.out) hkp (fun k_ hk_ hs_ => by simp only [ne_eq, hs_, not_true_eq_false, and_false, false_and] at hk_)) (fun k_ hk_ => by simp only [ne_eq, hk_, not_false_eq_true, and_self])); have n9_ := Aside0.mk (Kd.R_mono (ok' := fun k_ => some k_ ≠ (.slice Ao33 t314.length co33 : Value).ownBlock ∧ some k_ ≠ (.slice Ao34 t317.length co34 : Value).ownBlock ∧ some k_ ≠ (.slice Ao46 t324.length co46 : Value).ownBlock ∧ some k_ ≠ (.slice Ao43 t327.length co43 : Value).ownBlock ∧ some k_ ≠ (.slice Ao40 t330.length co40 : Value).ownBlock ∧ some k_ ≠ (.slice Ao45 t338.length co45 : Value).ownBlock ∧ some k_ ≠ (.slice Ao48 t342.length co48 : Value).ownBlock) (Kd.R_keptB (HO348.out) hkp (fun k_ hk_ hs_ => by simp only [ne_eq, hs_, not_true_eq_false, and_false, false_and] at hk_)) (fun k_ hk_ => by simp only [ne_eq, hk_, not_false_eq_true, and_self])); have n10_ := Aside0.mk (hb); clear BK312; clear HO316; clear HO319; clear HO326; clear HO329; clear HO332; clear BK337; clear HO340; clear HO344; clear HO348; clear HB; have BK312 := n0_; have HO316 := n1_; have HO319 := n2_; have HO326 := n3_; have HO329 := n4_; have HO332 := n5_; have BK337 := n6_; have HO340 := n7_; have HO344 := n8_; have HO348 := n9_; have HB := n10_; clear n0_ n1_ n2_ n3_ n4_ n5_ n6_ n7_ n8_ n9_ n10_; (try clear hb); (try clear hkp); (try clear hy0); have hcz54_0 : w53.cell? ⟨gb337, 0, none⟩ = some (.slice Ao40 t330.length co40) := (blk_cell BK337.out 0).trans rfl; have hcz54_1 : w53.cell? ⟨gb337, 1, none⟩ = some (.int .i64 t333) := (blk_cell BK337.out 1).trans rfl; have hcz54_2 : w53.cell? ⟨gb337, 2, none⟩ = some (.int .i64 t334) := (blk_cell BK337.out 2).trans rfl; have hcz54_3 : w53.cell? ⟨gb337, 3, none⟩ = some (.int .i64 t335) := (blk_cell BK337.out 3).trans rfl; have hcz54_4 : w53.cell? ⟨gb337, 4, none⟩ = some (.int .i64 t336) := (blk_cell BK337.out 4).trans rfl; have hfz54_0 := blk_frozen BK337.out 0; have hfz54_1 := blk_frozen BK337.out 1; have hfz54_2 := blk_frozen BK337.out 2; have hfz54_3 := blk_frozen BK337.out 3; have hfz54_4 := blk_frozen BK337.out 4) | ((with_reducible refine gate_callee (f := 23) rfl ?_); refine goesL_ (some 53) rfl rfl Try.func23 (by kernel_rfl) rfl #[.agg #[.slice Ao40 t330.length co40, .int .i64 t333, .int .i64 t334, .int .i64 t335, .int .i64 t336], .int .i64 t354] rfl (by (try simp only [List.map_toArray, List.map_cons, List.map_nil]); first | done | rfl | (simp only [List.length_drop, List.length_take]; rfl)) ?_; (with_reducible refine (laws_markScan.calls k (fun k_ => some k_ = (.slice Ao40 t330.length co40 : Value).ownBlock) (.slice Ao40 t330.length co40) t330 t333 t334 t335 t336 t354 t356 t357 w _ ?side1 ?side2 A25.out).mono ?_); (case side1 => repeat (first | (with_reducible first | exact HB.out | apply below_alloc | apply pw_below_drewN | apply below_drew1 | refine below_set ?_ GE312.out | refine below_set ?_ GE337.out) | exact HB.out)); (case side2 => exact Kd.R_tight rfl HO332.out); rintro e w55 ⟨rfl, hy0, hb, hkp⟩; refine ⟨_, rfl, ?_⟩; have n0_ := Aside0.mk (blk_kept (by (with_reducible repeat (first | refine blk_drewN ?_ _ | refine blk_drew ?_ | refine blk_alloc ?_ _)); exact BK312.out) hkp (fun hs_ => (fun e_ => (Kd.R_ne HO332.out BK312.out (by decide)) e_) hs_)); have n1_ := Aside0.mk (Kd.R_mono (ok' := fun k_ => some k_ ≠ (.slice Ao34 t317.length co34 : Value).ownBlock ∧ some k_ ≠ (.slice Ao46 t324.length co46 : Value).ownBlock ∧ some k_ ≠ (.slice Ao43 t327.length co43 : Value).ownBlock ∧ some k_ ≠ (.slice Ao40 t330.length co40 : Value).ownBlock ∧ some k_ ≠ (.slice Ao45 t338.length co45 : Value).ownBlock ∧ some k_ ≠ (.slice Ao48 t342.length co48 : Value).ownBlock ∧ some k_ ≠ (.slice Ao51 t346.length co51 : Value).ownBlock) (Kd.R_keptB (HO316.out) hkp (fun k_ hk_ hs_ => by simp only [ne_eq, hs_, not_true_eq_false, and_false, false_and] at hk_)) (fun k_ hk_ => by simp only [ne_eq, hk_, not_false_eq_true, and_self])); have n2_ := Aside0.mk (Kd.R_mono (ok' := fun k_ => some k_ ≠ (.slice Ao33 t314.length co33 : Value).ownBlock ∧ some k_ ≠ (.slice Ao46 t324.length co46 : Value).ownBlock ∧ some k_ ≠ (.slice Ao43 t327.length co43 : Value).ownBlock ∧ some k_ ≠ (.slice Ao40 t330.length co40 : Value).ownBlock ∧ some k_ ≠ (.slice Ao45 t338.length co45 : Value).ownBlock ∧ some k_ ≠ (.slice Ao48 t342.length co48 : Value).ownBlock ∧ some k_ ≠ (.slice Ao51 t346.length co51 : Value).ownBlock) (Kd.R_keptB (HO319.out) hkp (fun k_ hk_ hs_ => by simp only [ne_eq, hs_, not_true_eq_false, and_false, false_and] at hk_)) (fun k_ hk_ => by simp only [ne_eq, hk_, not_false_eq_true, and_self])); have n3_ := Aside0.mk (Kd.R_mono (ok' := fun k_ => some k_ ≠ (.slice Ao33 t314.length co33 : Value).ownBlock ∧ some k_ ≠ (.slice Ao34 t317.length co34 : Value).ownBlock ∧ some k_ ≠ (.slice Ao43 t327.length co43 : Value).ownBlock ∧ some k_ ≠ (.slice Ao40 t330.length co40 : Value).ownBlock ∧ some k_ ≠ (.slice Ao45 t338.length co45 : Value).ownBlock ∧ some k_ ≠ (.slice Ao48 t342.length co48 : Value).ownBlock ∧ some k_ ≠ (.slice Ao51 t346.length co51 : Value).ownBlock) (Kd.R_keptB (HO326.out) hkp (fun k_ hk_ hs_ => by simp only [ne_eq, hs_, not_true_eq_false, and_false, false_and] at hk_)) (fun k_ hk_ => by simp only [ne_eq, hk_, not_false_eq_true, and_self])); have n4_ := Aside0.mk (Kd.R_mono (ok' := fun k_ => some k_ ≠ (.slice Ao33 t314.length co33 : Value).ownBlock ∧ some k_ ≠ (.slice Ao34 t317.length co34 : Value).ownBlock ∧ some k_ ≠ (.slice Ao46 t324.length co46 : Value).ownBlock ∧ some k_ ≠ (.slice Ao40 t330.length co40 : Value).ownBlock ∧ some k_ ≠ (.slice Ao45 t338.length co45 : Value).ownBlock ∧ some k_ ≠ (.slice Ao48 t342.length co48 : Value).ownBlock ∧ some k_ ≠ (.slice Ao51 t346.length co51 : Value).ownBlock) (Kd.R_keptB (HO329.out) hkp (fun k_ hk_ hs_ => by simp only [ne_eq, hs_, not_true_eq_false, and_false, false_and] at hk_)) (fun k_ hk_ => by simp only [ne_eq, hk_, not_false_eq_true, and_self])); have n5_ := Aside0.mk (Kd.R_reok rfl hy0 (fun k_ e_ => HO332.out.1 k_ e_)); have n6_ := Aside0.mk (blk_kept (by (with_reducible repeat (first | refine blk_drewN ?_ _ | refine blk_drew ?_ | refine blk_alloc ?_ _)); exact BK337.out) hkp (fun hs_ => (fun e_ => (Kd.R_ne HO332.out BK337.out (by decide)) e_) hs_)); have n7_ := Aside0.mk (Kd.R_mono (ok' := fun k_ => some k_ ≠ (.slice Ao33 t314.length co33 : Value).ownBlock ∧ some k_ ≠ (.slice Ao34 t317.length co34 : Value).ownBlock ∧ some k_ ≠ (.slice Ao46 t324.length co46 : Value).ownBlock ∧ some k_ ≠ (.slice Ao43 t327.length co43 : Value).ownBlock ∧ some k_ ≠ (.slice Ao40 t330.length co40 : Value).ownBlock ∧ some k_ ≠ (.slice Ao48 t342.length co48 : Value).ownBlock ∧ some k_ ≠ (.slice Ao51 t346.length co51 : Value).ownBlock) (Kd.R_keptB (HO340.out) hkp (fun k_ hk_ hs_ => by simp only [ne_eq, hs_, not_true_eq_false, and_false, false_and] at hk_)) (fun k_ hk_ => by simp only [ne_eq, hk_, not_false_eq_true, and_self])); have n8_ := Aside0.mk (Kd.R_mono (ok' := fun k_ => some k_ ≠ (.slice Ao33 t314.length co33 : Value).ownBlock ∧ some k_ ≠ (.slice Ao34 t317.length co34 : Value).ownBlock ∧ some k_ ≠ (.slice Ao46 t324.length co46 : Value).ownBlock ∧ some k_ ≠ (.slice Ao43 t327.length co43 : Value).ownBlock ∧ some k_ ≠ (.slice Ao40 t330.length co40 : Value).ownBlock ∧ some k_ ≠ (.slice Ao45 t338.length co45 : Value).ownBlock ∧ some k_ ≠ (.slice Ao51 t346.length co51 : Value).ownBlock) (Kd.R_keptB (HO344.out) hkp (fun k_ hk_ hs_ => by simp only [ne_eq, hs_, not_true_eq_false, and_false, false_and] at hk_)) (fun k_ hk_ => by simp only [ne_eq, hk_, not_false_eq_true, and_self])); have n9_ := Aside0.mk (Kd.R_mono (ok' := fun k_ => some k_ ≠ (.slice Ao33 t314.length co33 : Value).ownBlock ∧ some k_ ≠ (.slice Ao34 t317.length co34 : Value).ownBlock ∧ some k_ ≠ (.slice Ao46 t324.length co46 : Value).ownBlock ∧ some k_ ≠ (.slice Ao43 t327.length co43 : Value).ownBlock ∧ some k_ ≠ (.slice Ao40 t330.length co40 : Value).ownBlock ∧ some k_ ≠ (.slice Ao45 t338.length co45 : Value).ownBlock ∧ some k_ ≠ (.slice Ao48 t342.length co48 : Value).ownBlock) (Kd.R_keptB (HO348.out) hkp (fun k_ hk_ hs_ => by simp only [ne_eq, hs_, not_true_eq_false, and_false, false_and] at hk_)) (fun k_ hk_ => by simp only [ne_eq, hk_, not_false_eq_true, and_self])); have n10_ := Aside0.mk (hb); clear BK312; clear HO316; clear HO319; clear HO326; clear HO329; clear HO332; clear BK337; clear HO340; clear HO344; clear HO348; clear HB; have BK312 := n0_; have HO316 := n1_; have HO319 := n2_; have HO326 := n3_; have HO329 := n4_; have HO332 := n5_; have BK337 := n6_; have HO340 := n7_; have HO344 := n8_; have HO348 := n9_; have HB := n10_; clear n0_ n1_ n2_ n3_ n4_ n5_ n6_ n7_ n8_ n9_ n10_; (try clear hb); (try clear hkp); (try clear hy0)))
            (try simp only [Act.put, List.setIfInBounds_toArray, List.set_cons_zero, List.set_cons_succ])
            go_cut [61] (fun v61 wc => ∃ (kq : Nat) (x61_25 : Bool), v61 = .bool x61_25 ∧ Aside0 (laws_FnExactRefineOf.j0 kq l0 t324 t338 x61_25 l1_0 a1_1 a1_2 a1_3 a1_4 = some r) ∧ Aside0 (kq ≤ k) ∧ Aside0 (Kd.R (Kd.int .i64) 3 wc w.heap.size (fun k_ => some k_ ≠ ((.slice Ao45 t338.length co45) : Value).ownBlock ∧ some k_ ≠ ((.slice Ao40 t330.length co40) : Value).ownBlock) (.slice Ao46 t324.length co46) t324) ∧ Aside0 (Kd.R (Kd.int .i64) 3 wc w.heap.size (fun k_ => some k_ ≠ ((.slice Ao46 t324.length co46) : Value).ownBlock ∧ some k_ ≠ ((.slice Ao40 t330.length co40) : Value).ownBlock) (.slice Ao45 t338.length co45) t338) ∧ Aside0 (Kd.R (Kd.int .i64) 3 wc w.heap.size (fun k_ => some k_ ≠ ((.slice Ao46 t324.length co46) : Value).ownBlock ∧ some k_ ≠ ((.slice Ao45 t338.length co45) : Value).ownBlock) (.slice Ao40 t330.length co40) t357) ∧ Aside0 (wc.heap[gb312]? = some (.cells #[(.slice A1_0 l1_0.length c1_0), .int .i64 a1_1, .int .i64 a1_2, .int .i64 a1_3, .int .i64 a1_4] 24 (0, 0))) ∧ Aside0 (wc.heap[gb337]? = some (.cells #[(.slice Ao40 t330.length co40), .int .i64 t333, .int .i64 t334, .int .i64 t335, .int .i64 t336] 28 (0, 0))) ∧ Aside0 (Below w.heap.size w wc))
            case first =>
              have H := HC26.out
              clear HC26
              by_cases c56 : t356 < 0
              · rw [if_pos c56] at H
                have c56b0 : decide (t356 < 0) = true := decide_eq_true c56
                clear c56
                (first | rw [c56b0] | (simp only [i64_w, i32_w]; rw [c56b0]) | skip)
                have H' := Aside0.mk H
                clear H
                go_wp2
                go_meet
                case rel => exact ⟨_, (true), (by first | rfl | (simp; done) | (simp [*]; done)), H', ⟨by first | omega | exact Nat.le_refl _⟩, ⟨by (with_reducible repeat (first | apply Kd.R_alloc | apply Kd.R_drewN | apply Kd.R_drew)); exact Kd.R_mono HO326.out (fun _ hk => by simp only [ne_eq, hk, not_false_eq_true, and_self])⟩, ⟨by (with_reducible repeat (first | apply Kd.R_alloc | apply Kd.R_drewN | apply Kd.R_drew)); exact Kd.R_mono HO340.out (fun _ hk => by simp only [ne_eq, hk, not_false_eq_true, and_self])⟩, ⟨by (with_reducible repeat (first | apply Kd.R_alloc | apply Kd.R_drewN | apply Kd.R_drew)); exact Kd.R_mono HO332.out (fun _ hk => by simp only [ne_eq, hk, not_false_eq_true, and_self])⟩, ⟨by (with_reducible repeat (first | refine blk_drewN ?_ _ | refine blk_drew ?_ | refine blk_alloc ?_ _)); exact BK312.out⟩, ⟨by (with_reducible repeat (first | refine blk_drewN ?_ _ | refine blk_drew ?_ | refine blk_alloc ?_ _)); exact BK337.out⟩, ⟨by repeat (first | (with_reducible first | exact HB.out | apply below_alloc | apply pw_below_drewN | apply below_drew1 | refine below_set ?_ GE312.out | refine below_set ?_ GE337.out) | exact HB.out)⟩⟩
              · rw [if_neg c56] at H
                have c56b0 : decide (t356 < 0) = false := decide_eq_false c56
                clear c56
                (first | rw [c56b0] | (simp only [i64_w, i32_w]; rw [c56b0]) | skip)
                replace H := Option.bind_eq_some_iff.mp H
                obtain ⟨t358, A570, H⟩ := H
                replace H : (laws_FnExactRefineOf.j0 k l0 t324 t338 (!t358) l1_0 a1_1 a1_2 a1_3 a1_4) = some r := H
                have A57 := Aside0.mk A570
                clear A570
                have H' := Aside0.mk H
                clear H
                go_wp2_with (first | (go_at_call 20; (with_reducible refine (laws_eqIntS.calls k _ _ t338 _ _ t324 t358 _ ?side1 ?side2 ?side3 ?side4 A57.out).mono ?_); (case side1 => repeat (first | exact (Kd.R_reads' HO340.out).2.2 | (with_reducible refine Kd.C_alloc ?_ _) | (with_reducible refine Kd.C_drewN ?_ _) | (with_reducible refine Kd.C_drew ?_))); (case side2 => exact (Kd.R_reads' HO340.out).2.1); (case side3 => repeat (first | exact (Kd.R_reads' HO326.out).2.2 | (with_reducible refine Kd.C_alloc ?_ _) | (with_reducible refine Kd.C_drewN ?_ _) | (with_reducible refine Kd.C_drew ?_))); (case side4 => exact (Kd.R_reads' HO326.out).2.1); rintro e w' ⟨rfl, ⟨nd, rfl⟩⟩))
                go_meet
                case rel => exact ⟨_, (!t358), (by first | rfl | (simp; done) | (simp [*]; done)), H', ⟨by first | omega | exact Nat.le_refl _⟩, ⟨by (with_reducible repeat (first | apply Kd.R_alloc | apply Kd.R_drewN | apply Kd.R_drew)); exact Kd.R_mono HO326.out (fun _ hk => by simp only [ne_eq, hk, not_false_eq_true, and_self])⟩, ⟨by (with_reducible repeat (first | apply Kd.R_alloc | apply Kd.R_drewN | apply Kd.R_drew)); exact Kd.R_mono HO340.out (fun _ hk => by simp only [ne_eq, hk, not_false_eq_true, and_self])⟩, ⟨by (with_reducible repeat (first | apply Kd.R_alloc | apply Kd.R_drewN | apply Kd.R_drew)); exact Kd.R_mono HO332.out (fun _ hk => by simp only [ne_eq, hk, not_false_eq_true, and_self])⟩, ⟨by (with_reducible repeat (first | refine blk_drewN ?_ _ | refine blk_drew ?_ | refine blk_alloc ?_ _)); exact BK312.out⟩, ⟨by (with_reducible repeat (first | refine blk_drewN ?_ _ | refine blk_drew ?_ | refine blk_alloc ?_ _)); exact BK337.out⟩, ⟨by repeat (first | (with_reducible first | exact HB.out | apply below_alloc | apply pw_below_drewN | apply below_drew1 | refine below_set ?_ GE312.out | refine below_set ?_ GE337.out) | exact HB.out)⟩⟩
            case rest =>
              clear HC26
              try clear c1
              try clear c2
              try clear p2
              try clear c3
              try clear c3b0
              try clear c3b1
              try clear c4
              try clear c5
              try clear c6
              try clear c6b0
              try clear c15
              try clear c17
              try clear c18
              try clear c20
              try clear c21
              try clear c22
              try clear c23
              try clear c27
              try clear c28
              try clear c41
              try clear c56
              try clear c56b0
              try clear hcz28_0
              try clear hcz28_1
              try clear hcz28_2
              try clear hcz28_3
              try clear hcz28_4
              try clear hcz37_0
              try clear hcz37_1
              try clear hcz37_2
              try clear hcz37_3
              try clear hcz37_4
              try clear hcz42_0
              try clear hcz42_1
              try clear hcz42_2
              try clear hcz42_3
              try clear hcz42_4
              try clear hcz54_0
              try clear hcz54_1
              try clear hcz54_2
              try clear hcz54_3
              try clear hcz54_4
              try clear hcz8_0
              try clear hcz8_1
              try clear hcz8_2
              try clear hcz8_3
              try clear hcz8_4
              try clear hfz28_0
              try clear hfz28_1
              try clear hfz28_2
              try clear hfz28_3
              try clear hfz28_4
              try clear hfz37_0
              try clear hfz37_1
              try clear hfz37_2
              try clear hfz37_3
              try clear hfz37_4
              try clear hfz42_0
              try clear hfz42_1
              try clear hfz42_2
              try clear hfz42_3
              try clear hfz42_4
              try clear hfz54_0
              try clear hfz54_1
              try clear hfz54_2
              try clear hfz54_3
              try clear hfz54_4
              try clear hfz8_0
              try clear hfz8_1
              try clear hfz8_2
              try clear hfz8_3
              try clear hfz8_4
              obtain ⟨kq, x61_25, rfl, HA, HJ25, HO_6, HO_9, HO_338000, BK312, BK337, HB⟩ := hcut
              have hl338000_25 := (Kd.R_reads' HO_338000.out).1
              rw [hl338000_25] at HO_338000
              (try simp only [hl338000_25])
              (try simp only [hl338000_25] at BK312)
              (try simp only [hl338000_25] at BK337)
              (try simp only [hl338000_25] at HO_6)
              (try simp only [hl338000_25] at HO_9)
              cases kq with
              | zero => exact absurd HA.out (by simp [laws_FnExactRefineOf.j0])
              | succ kj25 =>
                have H := HA.out
                clear HA
                simp only [laws_FnExactRefineOf.j0] at H
                by_cases c58 : x61_25 = true
                · subst c58
                  have H1 : (some false) = some r := by rw [if_pos rfl] at H; exact H
                  clear H
                  have H := H1
                  clear H1
                  exact absurd ((Option.some.inj H).trans HT_.out) (by decide)
                · replace c58 := Bool.eq_false_iff.mpr c58
                  subst c58
                  have H1 : ((laws_markIntS.f kj25 t338 1).bind fun bt359 => ((laws_heldIntS.f kj25 bt359.2 1).bind fun t361 => (if t361 < 0 then (some false) else (if t361 = bt359.1 then ((laws_toIntS.f kj25 l0).bind fun t362 => ((laws_toScan.f kj25 l1_0 a1_1 a1_2 a1_3 a1_4).bind fun bt365 => ((impl_RefineOf.f kj25 t362 bt365.1 bt365.2.1 bt365.2.2.1 bt365.2.2.2.1 bt365.2.2.2.2).bind fun t372 => ((laws_eqIntS.f kj25 t372 t324).bind fun t375 => (if t375 = true then ((laws_heldIntS.f kj25 bt359.2 1).bind fun t376 => (if t376 < 0 then (some false) else (if t376 = bt359.1 then (some true) else (some false)))) else (some false)))))) else (some false))))) = some r := by rw [if_neg (show ¬ (false = true) by decide)] at H; exact H
                  clear H
                  have H := H1
                  clear H1
                  replace H := Option.bind_eq_some_iff.mp H
                  obtain ⟨⟨t359, t360⟩, A590, H⟩ := H
                  replace H : ((laws_heldIntS.f kj25 t360 1).bind fun t361 => (if t361 < 0 then (some false) else (if t361 = t359 then ((laws_toIntS.f kj25 l0).bind fun t362 => ((laws_toScan.f kj25 l1_0 a1_1 a1_2 a1_3 a1_4).bind fun bt365 => ((impl_RefineOf.f kj25 t362 bt365.1 bt365.2.1 bt365.2.2.1 bt365.2.2.2.1 bt365.2.2.2.2).bind fun t372 => ((laws_eqIntS.f kj25 t372 t324).bind fun t375 => (if t375 = true then ((laws_heldIntS.f kj25 t360 1).bind fun t376 => (if t376 < 0 then (some false) else (if t376 = t359 then (some true) else (some false)))) else (some false)))))) else (some false)))) = some r := H
                  have A59 := Aside0.mk A590
                  clear A590
                  replace H := Option.bind_eq_some_iff.mp H
                  obtain ⟨t361, A600, H⟩ := H
                  replace H : (if t361 < 0 then (some false) else (if t361 = t359 then ((laws_toIntS.f kj25 l0).bind fun t362 => ((laws_toScan.f kj25 l1_0 a1_1 a1_2 a1_3 a1_4).bind fun bt365 => ((impl_RefineOf.f kj25 t362 bt365.1 bt365.2.1 bt365.2.2.1 bt365.2.2.2.1 bt365.2.2.2.2).bind fun t372 => ((laws_eqIntS.f kj25 t372 t324).bind fun t375 => (if t375 = true then ((laws_heldIntS.f kj25 t360 1).bind fun t376 => (if t376 < 0 then (some false) else (if t376 = t359 then (some true) else (some false)))) else (some false)))))) else (some false))) = some r := H
                  have A60 := Aside0.mk A600
                  clear A600
                  by_cases c61 : t361 < 0
                  · rw [if_pos c61] at H
                    have c61b0 : decide (t361 < 0) = true := decide_eq_true c61
                    clear c61
                    exact absurd ((Option.some.inj H).trans HT_.out) (by decide)
                  · rw [if_neg c61] at H
                    have c61b0 : decide (t361 < 0) = false := decide_eq_false c61
                    clear c61
                    by_cases c62 : t361 = t359
                    · rw [if_pos c62] at H
                      have c62b0 : (t361 == t359) = true := beq_iff_eq.mpr c62
                      have c62b1 : (t361 != t359) = false := bne_eq_false_iff_eq.mpr c62
                      clear c62
                      replace H := Option.bind_eq_some_iff.mp H
                      obtain ⟨t362, A630, H⟩ := H
                      replace H : ((laws_toScan.f kj25 l1_0 a1_1 a1_2 a1_3 a1_4).bind fun bt365 => ((impl_RefineOf.f kj25 t362 bt365.1 bt365.2.1 bt365.2.2.1 bt365.2.2.2.1 bt365.2.2.2.2).bind fun t372 => ((laws_eqIntS.f kj25 t372 t324).bind fun t375 => (if t375 = true then ((laws_heldIntS.f kj25 t360 1).bind fun t376 => (if t376 < 0 then (some false) else (if t376 = t359 then (some true) else (some false)))) else (some false))))) = some r := H
                      have A63 := Aside0.mk A630
                      clear A630
                      replace H := Option.bind_eq_some_iff.mp H
                      obtain ⟨⟨t365, t368, t369, t370, t371⟩, A640, H⟩ := H
                      replace H : ((impl_RefineOf.f kj25 t362 t365 t368 t369 t370 t371).bind fun t372 => ((laws_eqIntS.f kj25 t372 t324).bind fun t375 => (if t375 = true then ((laws_heldIntS.f kj25 t360 1).bind fun t376 => (if t376 < 0 then (some false) else (if t376 = t359 then (some true) else (some false)))) else (some false)))) = some r := H
                      have A64 := Aside0.mk A640
                      clear A640
                      replace H := Option.bind_eq_some_iff.mp H
                      obtain ⟨t372, A650, H⟩ := H
                      replace H : ((laws_eqIntS.f kj25 t372 t324).bind fun t375 => (if t375 = true then ((laws_heldIntS.f kj25 t360 1).bind fun t376 => (if t376 < 0 then (some false) else (if t376 = t359 then (some true) else (some false)))) else (some false))) = some r := H
                      have A65 := Aside0.mk A650
                      clear A650
                      replace H := Option.bind_eq_some_iff.mp H
                      obtain ⟨t375, A660, H⟩ := H
                      replace H : (if t375 = true then ((laws_heldIntS.f kj25 t360 1).bind fun t376 => (if t376 < 0 then (some false) else (if t376 = t359 then (some true) else (some false)))) else (some false)) = some r := H
                      have A66 := Aside0.mk A660
                      clear A660
                      by_cases c67 : t375 = true
                      · subst c67
                        have H1 : ((laws_heldIntS.f kj25 t360 1).bind fun t376 => (if t376 < 0 then (some false) else (if t376 = t359 then (some true) else (some false)))) = some r := by rw [if_pos rfl] at H; exact H
                        clear H
                        have H := H1
                        clear H1
                        replace H := Option.bind_eq_some_iff.mp H
                        obtain ⟨t376, A680, H⟩ := H
                        replace H : (if t376 < 0 then (some false) else (if t376 = t359 then (some true) else (some false))) = some r := H
                        have A68 := Aside0.mk A680
                        clear A680
                        by_cases c69 : t376 < 0
                        · rw [if_pos c69] at H
                          have c69b0 : decide (t376 < 0) = true := decide_eq_true c69
                          clear c69
                          exact absurd ((Option.some.inj H).trans HT_.out) (by decide)
                        · rw [if_neg c69] at H
                          have c69b0 : decide (t376 < 0) = false := decide_eq_false c69
                          clear c69
                          by_cases c70 : t376 = t359
                          · rw [if_pos c70] at H
                            have c70b0 : (t376 == t359) = true := beq_iff_eq.mpr c70
                            have c70b1 : (t376 != t359) = false := bne_eq_false_iff_eq.mpr c70
                            clear c70
                            obtain rfl := Option.some.inj H
                            try go_wp2_with (first | ((with_reducible refine gate_callee (f := 22) rfl ?_); refine goesL_ (some 64) rfl rfl Try.func22 (by kernel_rfl) rfl #[.slice Ao45 t338.length co45, .int .i64 1] rfl (by (try simp only [List.map_toArray, List.map_cons, List.map_nil]); first | done | rfl | (simp only [List.length_drop, List.length_take]; rfl)) ?_; (with_reducible refine (laws_markIntS.calls kj25 (fun k_ => some k_ = (.slice Ao45 t338.length co45 : Value).ownBlock) (.slice Ao45 t338.length co45) t338 1 t359 t360 w _ ?side1 ?side2 A59.out).mono ?_); (case side1 => repeat (first | (with_reducible first | exact HB.out | apply below_alloc | apply pw_below_drewN | apply below_drew1 | refine below_set ?_ GE312.out | refine below_set ?_ GE337.out) | exact HB.out)); (case side2 => exact Kd.R_tight rfl HO_9.out); rintro e w71 ⟨rfl, hy0, hb, hkp⟩; refine ⟨_, rfl, ?_⟩; have n0_ := Aside0.mk (Kd.R_mono (ok' := fun k_ => some k_ ≠ (.slice Ao45 t338.length co45 : Value).ownBlock ∧ some k_ ≠ (.slice Ao40 t357.length co40 : Value).ownBlock) (Kd.R_keptB (HO_6.out) hkp (fun k_ hk_ hs_ => by simp only [ne_eq, hs_, not_true_eq_false, and_false, false_and] at hk_)) (fun k_ hk_ => by simp only [ne_eq, hk_, not_false_eq_true, and_self])); have n1_ := Aside0.mk (Kd.R_reok rfl hy0 (fun k_ e_ => HO_9.out.1 k_ e_)); have n2_ := Aside0.mk (Kd.R_mono (ok' := fun k_ => some k_ ≠ (.slice Ao46 t324.length co46 : Value).ownBlock ∧ some k_ ≠ (.slice Ao45 t338.length co45 : Value).ownBlock) (Kd.R_keptB (HO_338000.out) hkp (fun k_ hk_ hs_ => by simp only [ne_eq, hs_, not_true_eq_false, and_false, false_and] at hk_)) (fun k_ hk_ => by simp only [ne_eq, hk_, not_false_eq_true, and_self])); have n3_ := Aside0.mk (blk_kept (by (with_reducible repeat (first | refine blk_drewN ?_ _ | refine blk_drew ?_ | refine blk_alloc ?_ _)); exact BK312.out) hkp (fun hs_ => (fun e_ => (Kd.R_ne HO_9.out BK312.out (by decide)) e_) hs_)); have n4_ := Aside0.mk (blk_kept (by (with_reducible repeat (first | refine blk_drewN ?_ _ | refine blk_drew ?_ | refine blk_alloc ?_ _)); exact BK337.out) hkp (fun hs_ => (fun e_ => (Kd.R_ne HO_9.out BK337.out (by decide)) e_) hs_)); have n5_ := Aside0.mk (hb); clear HO_6; clear HO_9; clear HO_338000; clear BK312; clear BK337; clear HB; have HO_6 := n0_; have HO_9 := n1_; have HO_338000 := n2_; have BK312 := n3_; have BK337 := n4_; have HB := n5_; clear n0_ n1_ n2_ n3_ n4_ n5_; (try clear hb); (try clear hkp); (try clear hy0)) | ((with_reducible refine gate_callee (f := 24) rfl ?_); refine goesL_ (some 67) rfl rfl Try.func24 (by kernel_rfl) rfl #[.slice Ao45 t360.length co45, .int .i64 1] rfl (by (try simp only [List.map_toArray, List.map_cons, List.map_nil]); first | done | (rw [show t360.length = t338.length from (Kd.R_reads' HO_9.out).1.symm] <;> rfl) | rfl | (simp only [List.length_drop, List.length_take]; rfl)) ?_; (with_reducible refine (laws_heldIntS.calls kj25 _ _ t360 1 t361 _ ?side1 ?side2 A60.out).mono ?_); (case side1 => repeat (first | exact (Kd.R_reads' HO_9.out).2.2 | (with_reducible refine Kd.C_alloc ?_ _) | (with_reducible refine Kd.C_drewN ?_ _) | (with_reducible refine Kd.C_drew ?_))); (case side2 => rw [show t360.length = t338.length from (Kd.R_reads' HO_9.out).1.symm]; exact (Kd.R_reads' HO_9.out).2.1); rintro e w' ⟨rfl, ⟨nd, rfl⟩⟩; refine ⟨_, rfl, ?_⟩))
                            (try (rw [drewN_self w71]; generalize hq_ : World.drewN w71 _ = w71; have n0_ : Aside0 (Kd.R (Kd.int .i64) 3 w71 w.heap.size (fun k_ => some k_ ≠ (.slice Ao46 t324.length co46 : Value).ownBlock ∧ some k_ ≠ (.slice Ao45 t338.length co45 : Value).ownBlock) (.slice Ao40 t357.length co40) t357) := ⟨by rw [← hq_]; exact (by (with_reducible repeat (first | apply Kd.R_alloc | apply Kd.R_drewN | apply Kd.R_drew)); exact HO_338000.out)⟩; have n1_ : Aside0 (Kd.R (Kd.int .i64) 3 w71 w.heap.size (fun k_ => some k_ ≠ (.slice Ao40 t357.length co40 : Value).ownBlock ∧ some k_ ≠ (.slice Ao45 t338.length co45 : Value).ownBlock) (.slice Ao46 t324.length co46) t324) := ⟨by rw [← hq_]; exact (by (with_reducible repeat (first | apply Kd.R_alloc | apply Kd.R_drewN | apply Kd.R_drew)); exact Kd.R_mono HO_6.out (fun _ hk => by simp only [ne_eq, hk, not_false_eq_true, and_self]))⟩; have n2_ : Aside0 (Kd.R (Kd.int .i64) 3 w71 w.heap.size (fun k_ => some k_ ≠ (.slice Ao40 t357.length co40 : Value).ownBlock ∧ some k_ ≠ (.slice Ao46 t324.length co46 : Value).ownBlock) (.slice Ao45 t338.length co45) t360) := ⟨by rw [← hq_]; exact (by (with_reducible repeat (first | apply Kd.R_alloc | apply Kd.R_drewN | apply Kd.R_drew)); exact Kd.R_mono HO_9.out (fun _ hk => by simp only [ne_eq, hk, not_false_eq_true, and_self]))⟩; have n3_ : Aside0 (w71.heap[gb312]? = some (.cells #[.slice A1_0 l1_0.length c1_0, .int .i64 a1_1, .int .i64 a1_2, .int .i64 a1_3, .int .i64 a1_4] 24 (0, 0))) := ⟨by rw [← hq_]; exact (by (with_reducible repeat (first | refine blk_drewN ?_ _ | refine blk_drew ?_ | refine blk_alloc ?_ _)); exact BK312.out)⟩; have n4_ : Aside0 (w71.heap[gb337]? = some (.cells #[.slice Ao40 t357.length co40, .int .i64 t333, .int .i64 t334, .int .i64 t335, .int .i64 t336] 28 (0, 0))) := ⟨by rw [← hq_]; exact (by (with_reducible repeat (first | refine blk_drewN ?_ _ | refine blk_drew ?_ | refine blk_alloc ?_ _)); exact BK337.out)⟩; have n5_ : Aside0 (Below w.heap.size w w71) := ⟨by rw [← hq_]; exact (by repeat (first | (with_reducible first | exact HB.out | apply below_alloc | apply pw_below_drewN | apply below_drew1 | refine below_set ?_ GE312.out | refine below_set ?_ GE337.out) | exact HB.out))⟩; clear HO_338000 HO_6 HO_9 BK312 BK337 HB hq_; have HO_338000 := n0_; have HO_6 := n1_; have HO_9 := n2_; have BK312 := n3_; have BK337 := n4_; have HB := n5_; clear n0_ n1_ n2_ n3_ n4_ n5_))
                            have n0_ := Aside0.mk (Kd.R_drew HO_6.out)
                            have n1_ := Aside0.mk (Kd.R_drew HO_9.out)
                            have n2_ := Aside0.mk (Kd.R_drew HO_338000.out)
                            have n3_ := Aside0.mk (blk_drew BK312.out)
                            have n4_ := Aside0.mk (blk_drew BK337.out)
                            have n5_ := Aside0.mk (below_drew1 HB.out)
                            clear HO_6
                            clear HO_9
                            clear HO_338000
                            clear BK312
                            clear BK337
                            clear HB
                            have HO_6 := n0_
                            have HO_9 := n1_
                            have HO_338000 := n2_
                            have BK312 := n3_
                            have BK337 := n4_
                            have HB := n5_
                            clear n0_ n1_ n2_ n3_ n4_ n5_
                            refine start_ (n := 6) (S := fun w' => w'.cell? ⟨gb312, 0, none⟩ = some (.slice A1_0 l1_0.length c1_0) ∧ w'.cell? ⟨gb312, 1, none⟩ = some (.int .i64 a1_1) ∧ w'.cell? ⟨gb312, 2, none⟩ = some (.int .i64 a1_2) ∧ w'.cell? ⟨gb312, 3, none⟩ = some (.int .i64 a1_3) ∧ w'.cell? ⟨gb312, 4, none⟩ = some (.int .i64 a1_4)) (ds := []) #[false, false, false, false, false, false] (by kernel_rfl) rfl rfl ⟨(blk_cell BK312.out 0).trans rfl, (blk_cell BK312.out 1).trans rfl, (blk_cell BK312.out 2).trans rfl, (blk_cell BK312.out 3).trans rfl, (blk_cell BK312.out 4).trans rfl⟩ (fun hHeld => ?_)
                            generalize w71.drew = w72 at HO_6 HO_9 HO_338000 BK312 BK337 HB hHeld ⊢
                            refine pure_ (i := 0) (N := some 73) (v := ?_) (a' := ?_) #[true, false, false, false, false, false] rfl rfl (by kernel_rfl) (fun _ _ _ h => h) (Or.inl ⟨by rfl, ?_⟩) ?_ ?_
                            rotate_left
                            · intro w'
                              go_simp
                              with_reducible rfl
                            rotate_left
                            · simp only [Act.put, List.setIfInBounds_toArray, List.set_cons_zero, List.set_cons_succ, i64_w, i32_w]
                              rfl
                            refine take_ (i := 2) (N := some 75) (v := ?_) (a' := ?_) #[true, false, true, false, false, false] rfl rfl (by kernel_rfl) (fun _ _ _ h => h) (Or.inl ⟨by rfl, ?_⟩) hHeld ?_ ?_
                            rotate_left
                            · rintro w' ⟨s0, s1, s2, s3, s4⟩
                              go_simp
                              with_reducible rfl
                            rotate_left
                            · simp only [Act.put, List.setIfInBounds_toArray, List.set_cons_zero, List.set_cons_succ, i64_w, i32_w]
                              rfl
                            refine one_ (i := 1) (N := some 74) #[true, true, true, false, false, false] rfl rfl (by kernel_rfl) (by decide) (fun K hK => ?_)
                            refine goes_ Try.func17 (by kernel_rfl) rfl #[.slice A0 l0.length c0] (by rfl) rfl rfl (by (try simp only [List.map_toArray, List.map_cons, List.map_nil]); first | done | rfl | (simp only [List.length_drop, List.length_take]; rfl)) ?_
                            with_reducible refine (laws_toIntS.calls kj25 _ _ l0 t362 _ ?side1 ?side2 A63.out).mono ?_
                            (case side1 => repeat (first | exact (Kd.C_below HR0.out HB.out) | (with_reducible refine Kd.C_alloc ?_ _) | (with_reducible refine Kd.C_drewN ?_ _) | (with_reducible refine Kd.C_drew ?_)))
                            (case side2 => exact HC0.out)
                            rintro e w73 ⟨v363, rfl, ho0, hb⟩
                            refine ⟨_, rfl, ?_⟩
                            have n0_ := Aside0.mk (Kd.R_elder' (by (with_reducible repeat (first | apply Kd.R_alloc | apply Kd.R_drewN | apply Kd.R_drew)); exact HO_6.out) (Kd.R_base ho0) hb)
                            have n1_ := Aside0.mk (Kd.R_elder' (by (with_reducible repeat (first | apply Kd.R_alloc | apply Kd.R_drewN | apply Kd.R_drew)); exact HO_9.out) (Kd.R_base ho0) hb)
                            have n2_ := Aside0.mk (Kd.R_elder' (by (with_reducible repeat (first | apply Kd.R_alloc | apply Kd.R_drewN | apply Kd.R_drew)); exact HO_338000.out) (Kd.R_base ho0) hb)
                            have n3_ := Aside0.mk (Kd.R_lower (Kd.R_new' (Kd.R_new' (Kd.R_new' ho0 (Kd.R_lt (by (with_reducible repeat (first | apply Kd.R_alloc | apply Kd.R_drewN | apply Kd.R_drew)); exact HO_6.out))) (Kd.R_lt (by (with_reducible repeat (first | apply Kd.R_alloc | apply Kd.R_drewN | apply Kd.R_drew)); exact HO_9.out))) (Kd.R_lt (by (with_reducible repeat (first | apply Kd.R_alloc | apply Kd.R_drewN | apply Kd.R_drew)); exact HO_338000.out))) (below_size (by repeat (first | (with_reducible first | exact HB.out | apply below_alloc | apply pw_below_drewN | apply below_drew1 | refine below_set ?_ GE312.out | refine below_set ?_ GE337.out) | exact HB.out))))
                            have n4_ := Aside0.mk (blk_below (g := gb312) (o := .cells #[.slice A1_0 l1_0.length c1_0, .int .i64 a1_1, .int .i64 a1_2, .int .i64 a1_3, .int .i64 a1_4] 24 (0, 0)) (by (with_reducible repeat (first | refine blk_drewN ?_ _ | refine blk_drew ?_ | refine blk_alloc ?_ _)); exact BK312.out) hb)
                            have n5_ := Aside0.mk (blk_below (g := gb337) (o := .cells #[.slice Ao40 t357.length co40, .int .i64 t333, .int .i64 t334, .int .i64 t335, .int .i64 t336] 28 (0, 0)) (by (with_reducible repeat (first | refine blk_drewN ?_ _ | refine blk_drew ?_ | refine blk_alloc ?_ _)); exact BK337.out) hb)
                            have n6_ := Aside0.mk (below_step (by repeat (first | (with_reducible first | exact HB.out | apply below_alloc | apply pw_below_drewN | apply below_drew1 | refine below_set ?_ GE312.out | refine below_set ?_ GE337.out) | exact HB.out)) hb)
                            clear HO_6
                            clear HO_9
                            clear HO_338000
                            clear BK312
                            clear BK337
                            clear HB
                            have HO_6 := n0_
                            have HO_9 := n1_
                            have HO_338000 := n2_
                            have HO364 := n3_
                            have BK312 := n4_
                            have BK337 := n5_
                            have HB := n6_
                            clear n0_ n1_ n2_ n3_ n4_ n5_ n6_
                            (try clear hb)
                            (try clear hb2)
                            (try clear hk)
                            (try clear hi)
                            (try clear ho0)
                            refine hK.out _ _ ⟨(blk_cell BK312.out 0).trans rfl, (blk_cell BK312.out 1).trans rfl, (blk_cell BK312.out 2).trans rfl, (blk_cell BK312.out 3).trans rfl, (blk_cell BK312.out 4).trans rfl⟩ (fun hHeld => ?_)
                            clear hK K
                            refine norm_ (a' := ?_) ?_ ?_
                            rotate_left
                            · show Act.put _ (some 74) _ = _
                              simp only [Act.put, List.setIfInBounds_toArray, List.set_cons_zero, List.set_cons_succ, i64_w, i32_w]
                              rfl
                            refine one_ (i := 3) (N := some 76) #[true, true, true, true, false, false] rfl rfl (by kernel_rfl) (by decide) (fun K hK => ?_)
                            refine goes_ Try.func18 (by kernel_rfl) rfl #[.agg #[.slice A1_0 l1_0.length c1_0, .int .i64 a1_1, .int .i64 a1_2, .int .i64 a1_3, .int .i64 a1_4]] (by rfl) rfl rfl (by (try simp only [List.map_toArray, List.map_cons, List.map_nil]); first | done | rfl | (simp only [List.length_drop, List.length_take]; rfl)) ?_
                            with_reducible refine (laws_toScan.calls kj25 _ _ l1_0 a1_1 a1_2 a1_3 a1_4 t365 t368 t369 t370 t371 _ ?side1 ?side2 A64.out).mono ?_
                            (case side1 => repeat (first | exact (Kd.C_below HR1_0.out HB.out) | (with_reducible refine Kd.C_alloc ?_ _) | (with_reducible refine Kd.C_drewN ?_ _) | (with_reducible refine Kd.C_drew ?_)))
                            (case side2 => exact HC1_0.out)
                            rintro e w74 ⟨v366, rfl, ho0, hb⟩
                            refine ⟨_, rfl, ?_⟩
                            have n0_ := Aside0.mk (Kd.R_elder' (by (with_reducible repeat (first | apply Kd.R_alloc | apply Kd.R_drewN | apply Kd.R_drew)); exact HO_6.out) (Kd.R_base ho0) hb)
                            have n1_ := Aside0.mk (Kd.R_elder' (by (with_reducible repeat (first | apply Kd.R_alloc | apply Kd.R_drewN | apply Kd.R_drew)); exact HO_9.out) (Kd.R_base ho0) hb)
                            have n2_ := Aside0.mk (Kd.R_elder' (by (with_reducible repeat (first | apply Kd.R_alloc | apply Kd.R_drewN | apply Kd.R_drew)); exact HO_338000.out) (Kd.R_base ho0) hb)
                            have n3_ := Aside0.mk (Kd.R_elder' (by (with_reducible repeat (first | apply Kd.R_alloc | apply Kd.R_drewN | apply Kd.R_drew)); exact HO364.out) (Kd.R_base ho0) hb)
                            have n4_ := Aside0.mk (Kd.R_lower (Kd.R_new' (Kd.R_new' (Kd.R_new' (Kd.R_new' ho0 (Kd.R_lt (by (with_reducible repeat (first | apply Kd.R_alloc | apply Kd.R_drewN | apply Kd.R_drew)); exact HO_6.out))) (Kd.R_lt (by (with_reducible repeat (first | apply Kd.R_alloc | apply Kd.R_drewN | apply Kd.R_drew)); exact HO_9.out))) (Kd.R_lt (by (with_reducible repeat (first | apply Kd.R_alloc | apply Kd.R_drewN | apply Kd.R_drew)); exact HO_338000.out))) (Kd.R_lt (by (with_reducible repeat (first | apply Kd.R_alloc | apply Kd.R_drewN | apply Kd.R_drew)); exact HO364.out))) (below_size (by repeat (first | (with_reducible first | exact HB.out | apply below_alloc | apply pw_below_drewN | apply below_drew1 | refine below_set ?_ GE312.out | refine below_set ?_ GE337.out) | exact HB.out))))
                            have n5_ := Aside0.mk (blk_below (g := gb312) (o := .cells #[.slice A1_0 l1_0.length c1_0, .int .i64 a1_1, .int .i64 a1_2, .int .i64 a1_3, .int .i64 a1_4] 24 (0, 0)) (by (with_reducible repeat (first | refine blk_drewN ?_ _ | refine blk_drew ?_ | refine blk_alloc ?_ _)); exact BK312.out) hb)
                            have n6_ := Aside0.mk (blk_below (g := gb337) (o := .cells #[.slice Ao40 t357.length co40, .int .i64 t333, .int .i64 t334, .int .i64 t335, .int .i64 t336] 28 (0, 0)) (by (with_reducible repeat (first | refine blk_drewN ?_ _ | refine blk_drew ?_ | refine blk_alloc ?_ _)); exact BK337.out) hb)
                            have n7_ := Aside0.mk (below_step (by repeat (first | (with_reducible first | exact HB.out | apply below_alloc | apply pw_below_drewN | apply below_drew1 | refine below_set ?_ GE312.out | refine below_set ?_ GE337.out) | exact HB.out)) hb)
                            clear HO_6
                            clear HO_9
                            clear HO_338000
                            clear HO364
                            clear BK312
                            clear BK337
                            clear HB
                            have HO_6 := n0_
                            have HO_9 := n1_
                            have HO_338000 := n2_
                            have HO364 := n3_
                            have HO367 := n4_
                            have BK312 := n5_
                            have BK337 := n6_
                            have HB := n7_
                            clear n0_ n1_ n2_ n3_ n4_ n5_ n6_ n7_
                            (try clear hb)
                            (try clear hb2)
                            (try clear hk)
                            (try clear hi)
                            (try clear ho0)
                            obtain ⟨Ao75, co75, eo75⟩ := Kd.R_slice HO364.out
                            (first | subst eo75 | (injection eo75 with f1_ f2_ f3_; have f4_ := f1_.symm; have f5_ := f3_.symm; clear f1_ f2_ f3_; subst f4_; subst f5_))
                            obtain ⟨Ao76, co76, eo76⟩ := Kd.R_slice HO367.out
                            (first | subst eo76 | (injection eo76 with f1_ f2_ f3_; have f4_ := f1_.symm; have f5_ := f3_.symm; clear f1_ f2_ f3_; subst f4_; subst f5_))
                            refine hK.out _ _ ⟨(blk_cell BK312.out 0).trans rfl, (blk_cell BK312.out 1).trans rfl, (blk_cell BK312.out 2).trans rfl, (blk_cell BK312.out 3).trans rfl, (blk_cell BK312.out 4).trans rfl⟩ (fun hHeld => ?_)
                            clear hK K
                            refine norm_ (a' := ?_) ?_ ?_
                            rotate_left
                            · show Act.put _ (some 76) _ = _
                              simp only [Act.put, List.setIfInBounds_toArray, List.set_cons_zero, List.set_cons_succ, i64_w, i32_w]
                              rfl
                            refine one_ (i := 4) (N := some 77) #[true, true, true, true, true, false] rfl rfl (by kernel_rfl) (by decide) (fun K hK => ?_)
                            refine goes_ Try.func28 (by kernel_rfl) rfl #[.slice Ao75 t362.length co75, .agg #[.slice Ao76 t365.length co76, .int .i64 t368, .int .i64 t369, .int .i64 t370, .int .i64 t371]] (by rfl) rfl rfl (by (try simp only [List.map_toArray, List.map_cons, List.map_nil]); first | done | rfl | (simp only [List.length_drop, List.length_take]; rfl)) ?_
                            with_reducible refine (impl_RefineOf.calls kj25 _ _ t362 _ _ t365 t368 t369 t370 t371 t372 _ ?side1 ?side2 ?side3 ?side4 A65.out).mono ?_
                            (case side1 => repeat (first | exact (Kd.R_reads' HO364.out).2.2 | (with_reducible refine Kd.C_alloc ?_ _) | (with_reducible refine Kd.C_drewN ?_ _) | (with_reducible refine Kd.C_drew ?_)))
                            (case side2 => exact (Kd.R_reads' HO364.out).2.1)
                            (case side3 => repeat (first | exact (Kd.R_reads' HO367.out).2.2 | (with_reducible refine Kd.C_alloc ?_ _) | (with_reducible refine Kd.C_drewN ?_ _) | (with_reducible refine Kd.C_drew ?_)))
                            (case side4 => exact (Kd.R_reads' HO367.out).2.1)
                            rintro e w77 ⟨v373, rfl, ho0, hb⟩
                            refine ⟨_, rfl, ?_⟩
                            have n0_ := Aside0.mk (Kd.R_elder' (by (with_reducible repeat (first | apply Kd.R_alloc | apply Kd.R_drewN | apply Kd.R_drew)); exact HO_6.out) (Kd.R_base ho0) hb)
                            have n1_ := Aside0.mk (Kd.R_elder' (by (with_reducible repeat (first | apply Kd.R_alloc | apply Kd.R_drewN | apply Kd.R_drew)); exact HO_9.out) (Kd.R_base ho0) hb)
                            have n2_ := Aside0.mk (Kd.R_elder' (by (with_reducible repeat (first | apply Kd.R_alloc | apply Kd.R_drewN | apply Kd.R_drew)); exact HO_338000.out) (Kd.R_base ho0) hb)
                            have n3_ := Aside0.mk (Kd.R_elder' (by (with_reducible repeat (first | apply Kd.R_alloc | apply Kd.R_drewN | apply Kd.R_drew)); exact HO364.out) (Kd.R_base ho0) hb)
                            have n4_ := Aside0.mk (Kd.R_elder' (by (with_reducible repeat (first | apply Kd.R_alloc | apply Kd.R_drewN | apply Kd.R_drew)); exact HO367.out) (Kd.R_base ho0) hb)
                            have n5_ := Aside0.mk (Kd.R_lower (Kd.R_new' (Kd.R_new' (Kd.R_new' (Kd.R_new' (Kd.R_new' ho0 (Kd.R_lt (by (with_reducible repeat (first | apply Kd.R_alloc | apply Kd.R_drewN | apply Kd.R_drew)); exact HO_6.out))) (Kd.R_lt (by (with_reducible repeat (first | apply Kd.R_alloc | apply Kd.R_drewN | apply Kd.R_drew)); exact HO_9.out))) (Kd.R_lt (by (with_reducible repeat (first | apply Kd.R_alloc | apply Kd.R_drewN | apply Kd.R_drew)); exact HO_338000.out))) (Kd.R_lt (by (with_reducible repeat (first | apply Kd.R_alloc | apply Kd.R_drewN | apply Kd.R_drew)); exact HO364.out))) (Kd.R_lt (by (with_reducible repeat (first | apply Kd.R_alloc | apply Kd.R_drewN | apply Kd.R_drew)); exact HO367.out))) (below_size (by repeat (first | (with_reducible first | exact HB.out | apply below_alloc | apply pw_below_drewN | apply below_drew1 | refine below_set ?_ GE312.out | refine below_set ?_ GE337.out) | exact HB.out))))
                            have n6_ := Aside0.mk (blk_below (g := gb312) (o := .cells #[.slice A1_0 l1_0.length c1_0, .int .i64 a1_1, .int .i64 a1_2, .int .i64 a1_3, .int .i64 a1_4] 24 (0, 0)) (by (with_reducible repeat (first | refine blk_drewN ?_ _ | refine blk_drew ?_ | refine blk_alloc ?_ _)); exact BK312.out) hb)
                            have n7_ := Aside0.mk (blk_below (g := gb337) (o := .cells #[.slice Ao40 t357.length co40, .int .i64 t333, .int .i64 t334, .int .i64 t335, .int .i64 t336] 28 (0, 0)) (by (with_reducible repeat (first | refine blk_drewN ?_ _ | refine blk_drew ?_ | refine blk_alloc ?_ _)); exact BK337.out) hb)
                            have n8_ := Aside0.mk (below_step (by repeat (first | (with_reducible first | exact HB.out | apply below_alloc | apply pw_below_drewN | apply below_drew1 | refine below_set ?_ GE312.out | refine below_set ?_ GE337.out) | exact HB.out)) hb)
                            clear HO_6
                            clear HO_9
                            clear HO_338000
                            clear HO364
                            clear HO367
                            clear BK312
                            clear BK337
                            clear HB
                            have HO_6 := n0_
                            have HO_9 := n1_
                            have HO_338000 := n2_
                            have HO364 := n3_
                            have HO367 := n4_
                            have HO374 := n5_
                            have BK312 := n6_
                            have BK337 := n7_
                            have HB := n8_
                            clear n0_ n1_ n2_ n3_ n4_ n5_ n6_ n7_ n8_
                            (try clear hb)
                            (try clear hb2)
                            (try clear hk)
                            (try clear hi)
                            (try clear ho0)
                            refine hK.out _ _ ⟨(blk_cell BK312.out 0).trans rfl, (blk_cell BK312.out 1).trans rfl, (blk_cell BK312.out 2).trans rfl, (blk_cell BK312.out 3).trans rfl, (blk_cell BK312.out 4).trans rfl⟩ (fun hHeld => ?_)
                            clear hK K
                            refine norm_ (a' := ?_) ?_ ?_
                            rotate_left
                            · show Act.put _ (some 77) _ = _
                              simp only [Act.put, List.setIfInBounds_toArray, List.set_cons_zero, List.set_cons_succ, i64_w, i32_w]
                              rfl
                            refine pure_ (i := 5) (N := some 13) (v := ?_) (a' := ?_) #[true, true, true, true, true, true] rfl rfl (by kernel_rfl) (fun _ _ _ h => h) (Or.inl ⟨by rfl, ?_⟩) ?_ ?_
                            rotate_left
                            · intro w'
                              go_simp
                              with_reducible rfl
                            rotate_left
                            · simp only [Act.put, List.setIfInBounds_toArray, List.set_cons_zero, List.set_cons_succ, i64_w, i32_w]
                              rfl
                            refine done_ (by kernel_rfl) ?_
                            obtain ⟨Ao78, co78, eo78⟩ := Kd.R_slice HO374.out
                            subst eo78
                            try go_wp2_with (first | ((with_reducible refine gate_callee (f := 20) rfl ?_); refine goesL_ (some 80) rfl rfl Try.func20 (by kernel_rfl) rfl #[.slice Ao78 t372.length co78, .slice Ao46 t324.length co46] rfl (by (try simp only [List.map_toArray, List.map_cons, List.map_nil]); first | done | rfl | (simp only [List.length_drop, List.length_take]; rfl)) ?_; (with_reducible refine (laws_eqIntS.calls kj25 _ _ t372 _ _ t324 true _ ?side1 ?side2 ?side3 ?side4 A66.out).mono ?_); (case side1 => repeat (first | exact (Kd.R_reads' HO374.out).2.2 | (with_reducible refine Kd.C_alloc ?_ _) | (with_reducible refine Kd.C_drewN ?_ _) | (with_reducible refine Kd.C_drew ?_))); (case side2 => exact (Kd.R_reads' HO374.out).2.1); (case side3 => repeat (first | exact (Kd.R_reads' HO_6.out).2.2 | (with_reducible refine Kd.C_alloc ?_ _) | (with_reducible refine Kd.C_drewN ?_ _) | (with_reducible refine Kd.C_drew ?_))); (case side4 => exact (Kd.R_reads' HO_6.out).2.1); rintro e w' ⟨rfl, ⟨nd, rfl⟩⟩; refine ⟨_, rfl, ?_⟩) | ((with_reducible refine gate_callee (f := 24) rfl ?_); refine goesL_ (some 84) rfl rfl Try.func24 (by kernel_rfl) rfl #[.slice Ao45 t360.length co45, .int .i64 1] rfl (by (try simp only [List.map_toArray, List.map_cons, List.map_nil]); first | done | (rw [show t360.length = t338.length from (Kd.R_reads' HO_9.out).1.symm] <;> rfl) | rfl | (simp only [List.length_drop, List.length_take]; rfl)) ?_; (with_reducible refine (laws_heldIntS.calls kj25 _ _ t360 1 t376 _ ?side1 ?side2 A68.out).mono ?_); (case side1 => repeat (first | exact (Kd.R_reads' HO_9.out).2.2 | (with_reducible refine Kd.C_alloc ?_ _) | (with_reducible refine Kd.C_drewN ?_ _) | (with_reducible refine Kd.C_drew ?_))); (case side2 => rw [show t360.length = t338.length from (Kd.R_reads' HO_9.out).1.symm]; exact (Kd.R_reads' HO_9.out).2.1); rintro e w' ⟨rfl, ⟨nd, rfl⟩⟩; refine ⟨_, rfl, ?_⟩))
                            go_ret
                            exact ⟨by first | rfl | (simp [errW_none, errW_some] <;> rfl) | (simp [*, errW_none, errW_some] <;> rfl), by repeat (first | (with_reducible first | exact HB.out | apply below_alloc | apply pw_below_drewN | apply below_drew1 | refine below_set ?_ GE312.out | refine below_set ?_ GE337.out) | exact HB.out)⟩
                          · rw [if_neg c70] at H
                            have c70b0 : (t376 == t359) = false := beq_eq_false_iff_ne.mpr c70
                            have c70b1 : (t376 != t359) = true := bne_iff_ne.mpr c70
                            exact absurd ((Option.some.inj H).trans HT_.out) (by decide)
                      · replace c67 := Bool.eq_false_iff.mpr c67
                        subst c67
                        have H1 : (some false) = some r := by rw [if_neg (show ¬ (false = true) by decide)] at H; exact H
                        clear H
                        have H := H1
                        clear H1
                        exact absurd ((Option.some.inj H).trans HT_.out) (by decide)
                    · rw [if_neg c62] at H
                      have c62b0 : (t361 == t359) = false := beq_eq_false_iff_ne.mpr c62
                      have c62b1 : (t361 != t359) = true := bne_iff_ne.mpr c62
                      exact absurd ((Option.some.inj H).trans HT_.out) (by decide)
          · replace c23 := Bool.eq_false_iff.mpr c23
            subst c23
            have H1 : (some false) = some r := by rw [if_neg (show ¬ (false = true) by decide)] at H; exact H
            clear H
            have H := H1
            clear H1
            exact absurd ((Option.some.inj H).trans HT_.out) (by decide)
        · replace c20 := Bool.eq_false_iff.mpr c20
          subst c20
          have H1 : (some false) = some r := by rw [if_neg (show ¬ (false = true) by decide)] at H; exact H
          clear H
          have H := H1
          clear H1
          exact absurd ((Option.some.inj H).trans HT_.out) (by decide)
      · replace c17 := Bool.eq_false_iff.mpr c17
        subst c17
        have H1 : (some false) = some r := by rw [if_neg (show ¬ (false = true) by decide)] at H; exact H
        clear H
        have H := H1
        clear H1
        exact absurd ((Option.some.inj H).trans HT_.out) (by decide)


/-- The one pure statement of laws_FnExactRefineOf. -/
def laws_FnExactRefineOf.Pure : Prop := ∀ (l0 : List Int) (l1_0 : List Int) (a1_1 : Int) (a1_2 : Int) (a1_3 : Int) (a1_4 : Int), (l0.length ≤ maxLen ∧ ∀ y_7 ∈ l0, (Lit.int .i64 y_7).wf = true) → (l1_0.length ≤ maxLen ∧ ∀ y_7 ∈ l1_0, (Lit.int .i64 y_7).wf = true) → (Lit.int .i64 a1_1).wf = true → (Lit.int .i64 a1_2).wf = true → (Lit.int .i64 a1_3).wf = true → (Lit.int .i64 a1_4).wf = true → ∃ k, laws_FnExactRefineOf.f k l0 l1_0 a1_1 a1_2 a1_3 a1_4 = some true
theorem laws_FnExactRefineOf.walk (P : laws_FnExactRefineOf.Pure) (A0 : Option Addr) (c0 : Nat) (l0 : List Int) (A1_0 : Option Addr) (c1_0 : Nat) (l1_0 : List Int) (a1_1 : Int) (a1_2 : Int) (a1_3 : Int) (a1_4 : Int) (w : World) (hr0 : Kd.C (Kd.int .i64) w A0 l0.length l0) (hc0 : l0.length ≤ c0) (hr1_0 : Kd.C (Kd.int .i64) w A1_0 l1_0.length l1_0) (hc1_0 : l1_0.length ≤ c1_0) (ql0 : (l0.length ≤ maxLen ∧ ∀ y_7 ∈ l0, (Lit.int .i64 y_7).wf = true)) (ql1_0 : (l1_0.length ≤ maxLen ∧ ∀ y_7 ∈ l1_0, (Lit.int .i64 y_7).wf = true)) (qa1_1 : (Lit.int .i64 a1_1).wf = true) (qa1_2 : (Lit.int .i64 a1_2).wf = true) (qa1_3 : (Lit.int .i64 a1_3).wf = true) (qa1_4 : (Lit.int .i64 a1_4).wf = true) :
    Calls Try.prog 5 #[.slice A0 l0.length c0, .agg #[.slice A1_0 l1_0.length c1_0, .int .i64 a1_1, .int .i64 a1_2, .int .i64 a1_3, .int .i64 a1_4]] w fun e w' => e = .returned (.bool true) ∧ Below w.heap.size w w' := by
  obtain ⟨k, h⟩ := P l0 l1_0 a1_1 a1_2 a1_3 a1_4 ql0 ql1_0 qa1_1 qa1_2 qa1_3 qa1_4
  refine (laws_FnExactRefineOf.calls k A0 c0 l0 A1_0 c1_0 l1_0 a1_1 a1_2 a1_3 a1_4 true w hr0 hc0 hr1_0 hc1_0 ⟨rfl⟩ h).mono ?_
  rintro e w' ⟨rfl, hd⟩
  exact ⟨rfl, hd⟩

end Go.Proofs.Ythajjjpblkhmmaa.CF
