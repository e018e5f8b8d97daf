/- Functions that a law of this seat reaches: written by a program of this session (wip/xprint.py), and by hand. -/
import Derived.Test.YthajjjpblkhmmaaCFx0
import Derived.Test.YthajjjpblkhmmaaCFx1
import Derived.Test.YthajjjpblkhmmaaCFx2
import Derived.Test.YthajjjpblkhmmaaCFx4
import Derived.Test.YthajjjpblkhmmaaCFx5
namespace Go.Proofs.Ythajjjpblkhmmaa.CF
open Go.RowKit Go.Proofs.Ythajjjpblkhmmaa.B Go.Proofs.YthajjjpblkhmmaaW.PrintWords Go.Proofs.YthajjjpblkhmmaaW.PrintLast Go.Proofs.YthajjjpblkhmmaaW.PrintMore
attribute [local go_sem] max2_int min2_int max_two min_two max_three min_three max_four min_four   -- for this text's walks alone
set_option linter.unusedVariables false
set_option linter.unusedSimpArgs false

/-! ### laws_FnExactFirstOf: function 3 -/
def laws_FnExactFirstOf.j0 : Nat → List Int → List Int → List Int → Bool → List Int → Int → Int → Int → Int → Option (Bool)
  | 0, _, _, _, _, _, _, _, _, _ => none
  | k + 1, x0, x6, x9, x61, x201000, x201001, x201002, x201003, x201004 => if x61 = true then (some false) else ((laws_markIntS.f k x9 1).bind fun bt247 => ((laws_heldIntS.f k bt247.2 1).bind fun t249 => (if t249 < 0 then (some false) else (if t249 = bt247.1 then ((laws_toIntS.f k x0).bind fun t250 => ((laws_toScan.f k x201000 x201001 x201002 x201003 x201004).bind fun bt253 => ((impl_FirstOf.f k t250 bt253.1 bt253.2.1 bt253.2.2.1 bt253.2.2.2.1 bt253.2.2.2.2).bind fun t260 => ((laws_eqIntS.f k t260 x6).bind fun t263 => (if t263 = true then ((laws_heldIntS.f k bt247.2 1).bind fun t264 => (if t264 < 0 then (some false) else (if t264 = bt247.1 then (some true) else (some false)))) else (some false)))))) else (some false)))))
def laws_FnExactFirstOf.f (k : Nat) (l0 : List Int) (l1_0 : List Int) (a1_1 : Int) (a1_2 : Int) (a1_3 : Int) (a1_4 : Int) : Option (Bool) := if (l0.length : Int) > 1048576 then (some true) else ((laws_szScan.f l1_0 a1_1 a1_2 a1_3 a1_4 1048576).bind fun t201 => (if t201 < 0 then (some true) else ((laws_toIntS.f k l0).bind fun t202 => ((laws_toScan.f k l1_0 a1_1 a1_2 a1_3 a1_4).bind fun bt205 => ((spec_FirstOf.f k t202 bt205.1 bt205.2.1 bt205.2.2.1 bt205.2.2.2.1 bt205.2.2.2.2).bind fun t212 => ((laws_toIntS.f k l0).bind fun t215 => ((laws_toScan.f k l1_0 a1_1 a1_2 a1_3 a1_4).bind fun bt218 => ((impl_FirstOf.f k t215 bt218.1 bt218.2.1 bt218.2.2.1 bt218.2.2.2.1 bt218.2.2.2.2).bind fun t226 => ((laws_eqIntS.f k t226 t212).bind fun t229 => (if t229 = true then ((laws_toIntS.f k l0).bind fun t230 => ((laws_eqIntS.f k t215 t230).bind fun t233 => (if t233 = true then ((laws_toScan.f k l1_0 a1_1 a1_2 a1_3 a1_4).bind fun bt234 => ((laws_eqScan.f k bt218.1 bt218.2.1 bt218.2.2.1 bt218.2.2.2.1 bt218.2.2.2.2 bt234.1 bt234.2.1 bt234.2.2.1 bt234.2.2.2.1 bt234.2.2.2.2).bind fun t241 => (if t241 = true then ((laws_markIntS.f k t215 1).bind fun bt242 => ((laws_markScan.f k bt218.1 bt218.2.1 bt218.2.2.1 bt218.2.2.2.1 bt218.2.2.2.2 bt242.1).bind fun bt244 => (if bt244.1 < 0 then (laws_FnExactFirstOf.j0 k l0 t212 t226 true l1_0 a1_1 a1_2 a1_3 a1_4) else ((laws_eqIntS.f k t226 t212).bind fun t246 => (laws_FnExactFirstOf.j0 k l0 t212 t226 (!t246) l1_0 a1_1 a1_2 a1_3 a1_4))))) else (some false)))) else (some false)))) else (some false)))))))))))
theorem laws_FnExactFirstOf.mono_l : ∀ k, (∀ y0 y1 y2 y3 y4 y5 y6 y7 y8, LeO (laws_FnExactFirstOf.j0 k y0 y1 y2 y3 y4 y5 y6 y7 y8) (laws_FnExactFirstOf.j0 (k + 1) y0 y1 y2 y3 y4 y5 y6 y7 y8))
  | 0 => fun _ _ _ _ _ _ _ _ _ r h => by simp [laws_FnExactFirstOf.j0] at h
  | k + 1 => by
    have ih0 := laws_FnExactFirstOf.mono_l k
    · intro y0 y1 y2 y3 y4 y5 y6 y7 y8
      unfold laws_FnExactFirstOf.j0
      repeat' first
      | (with_reducible exact ih0 _ _ _ _ _ _ _ _ _)
      | (with_reducible exact impl_FirstOf.mono _ _ _ _ _ _ _)
      | (with_reducible exact laws_eqIntS.mono _ _ _)
      | (with_reducible exact laws_eqScan.mono _ _ _ _ _ _ _ _ _ _ _)
      | (with_reducible exact laws_heldIntS.mono _ _ _)
      | (with_reducible exact laws_markIntS.mono _ _ _)
      | (with_reducible exact laws_markScan.mono _ _ _ _ _ _ _)
      | (with_reducible exact laws_toIntS.mono _ _)
      | (with_reducible exact laws_toScan.mono _ _ _ _ _ _)
      | (with_reducible exact spec_FirstOf.mono _ _ _ _ _ _ _)
      | (with_reducible exact LeO.refl _)
      | (with_reducible exact LeO.none _)
      | (with_reducible refine LeO.ite ?_ ?_)
      | (with_reducible refine LeO.bind ?_ (fun _ => ?_))
      | exact ih0 _ _ _ _ _ _ _ _ _
      | exact impl_FirstOf.mono _ _ _ _ _ _ _
      | exact laws_eqIntS.mono _ _ _
      | exact laws_eqScan.mono _ _ _ _ _ _ _ _ _ _ _
      | exact laws_heldIntS.mono _ _ _
      | exact laws_markIntS.mono _ _ _
      | exact laws_markScan.mono _ _ _ _ _ _ _
      | exact laws_toIntS.mono _ _
      | exact laws_toScan.mono _ _ _ _ _ _
      | exact spec_FirstOf.mono _ _ _ _ _ _ _
      | exact LeO.none _
      | refine LeO.ite ?_ ?_
      | refine LeO.bind ?_ (fun _ => ?_)
theorem laws_FnExactFirstOf.mono : ∀ a0 a1 a2 a3 a4 a5 k, LeO (laws_FnExactFirstOf.f k a0 a1 a2 a3 a4 a5) (laws_FnExactFirstOf.f (k + 1) a0 a1 a2 a3 a4 a5) := by
  intro a0 a1 a2 a3 a4 a5 k
  have ih0 := laws_FnExactFirstOf.mono_l k
  unfold laws_FnExactFirstOf.f
  repeat' first
      | (with_reducible exact ih0 _ _ _ _ _ _ _ _ _)
      | (with_reducible exact impl_FirstOf.mono _ _ _ _ _ _ _)
      | (with_reducible exact laws_eqIntS.mono _ _ _)
      | (with_reducible exact laws_eqScan.mono _ _ _ _ _ _ _ _ _ _ _)
      | (with_reducible exact laws_heldIntS.mono _ _ _)
      | (with_reducible exact laws_markIntS.mono _ _ _)
      | (with_reducible exact laws_markScan.mono _ _ _ _ _ _ _)
      | (with_reducible exact laws_toIntS.mono _ _)
      | (with_reducible exact laws_toScan.mono _ _ _ _ _ _)
      | (with_reducible exact spec_FirstOf.mono _ _ _ _ _ _ _)
      | (with_reducible exact LeO.refl _)
      | (with_reducible exact LeO.none _)
      | (with_reducible refine LeO.ite ?_ ?_)
      | (with_reducible refine LeO.bind ?_ (fun _ => ?_))
      | exact ih0 _ _ _ _ _ _ _ _ _
      | exact impl_FirstOf.mono _ _ _ _ _ _ _
      | exact laws_eqIntS.mono _ _ _
      | exact laws_eqScan.mono _ _ _ _ _ _ _ _ _ _ _
      | exact laws_heldIntS.mono _ _ _
      | exact laws_markIntS.mono _ _ _
      | exact laws_markScan.mono _ _ _ _ _ _ _
      | exact laws_toIntS.mono _ _
      | exact laws_toScan.mono _ _ _ _ _ _
      | exact spec_FirstOf.mono _ _ _ _ _ _ _
      | exact LeO.none _
      | refine LeO.ite ?_ ?_
      | refine LeO.bind ?_ (fun _ => ?_)
set_option maxHeartbeats 8000000 in
set_option maxRecDepth 100000 in
theorem laws_FnExactFirstOf.calls (k : Nat) (A0 : Option Addr) (c0 : Nat) (l0 : List Int) (A1_0 : Option Addr) (c1_0 : Nat) (l1_0 : List Int) (a1_1 : Int) (a1_2 : Int) (a1_3 : Int) (a1_4 : Int) (r : Bool) (w : World) (hr0 : Kd.C (Kd.int .i64) w A0 l0.length l0) (hc0 : l0.length ≤ c0) (hr1_0 : Kd.C (Kd.int .i64) w A1_0 l1_0.length l1_0) (hc1_0 : l1_0.length ≤ c1_0) (HT_ : Aside0 (r = true)) (h : laws_FnExactFirstOf.f k l0 l1_0 a1_1 a1_2 a1_3 a1_4 = some r) :
    Calls Try.prog 3 #[.slice A0 l0.length c0, .agg #[.slice A1_0 l1_0.length c1_0, .int .i64 a1_1, .int .i64 a1_2, .int .i64 a1_3, .int .i64 a1_4]] w fun e w' => e = .returned (.bool r) ∧ Below w.heap.size w w' := by
  have hu24 := Try.underlying24
  have hu28 := Try.underlying28
  have HR0 := Aside0.mk hr0
  have HC0 := Aside0.mk hc0
  clear hr0 hc0
  have HR1_0 := Aside0.mk hr1_0
  have HC1_0 := Aside0.mk hc1_0
  clear hr1_0 hc1_0
  have HB := Aside0.mk (Below.refl w.heap.size w)
  have H : (if (l0.length : Int) > 1048576 then (some true) else ((laws_szScan.f l1_0 a1_1 a1_2 a1_3 a1_4 1048576).bind fun t201 => (if t201 < 0 then (some true) else ((laws_toIntS.f k l0).bind fun t202 => ((laws_toScan.f k l1_0 a1_1 a1_2 a1_3 a1_4).bind fun bt205 => ((spec_FirstOf.f k t202 bt205.1 bt205.2.1 bt205.2.2.1 bt205.2.2.2.1 bt205.2.2.2.2).bind fun t212 => ((laws_toIntS.f k l0).bind fun t215 => ((laws_toScan.f k l1_0 a1_1 a1_2 a1_3 a1_4).bind fun bt218 => ((impl_FirstOf.f k t215 bt218.1 bt218.2.1 bt218.2.2.1 bt218.2.2.2.1 bt218.2.2.2.2).bind fun t226 => ((laws_eqIntS.f k t226 t212).bind fun t229 => (if t229 = true then ((laws_toIntS.f k l0).bind fun t230 => ((laws_eqIntS.f k t215 t230).bind fun t233 => (if t233 = true then ((laws_toScan.f k l1_0 a1_1 a1_2 a1_3 a1_4).bind fun bt234 => ((laws_eqScan.f k bt218.1 bt218.2.1 bt218.2.2.1 bt218.2.2.2.1 bt218.2.2.2.2 bt234.1 bt234.2.1 bt234.2.2.1 bt234.2.2.2.1 bt234.2.2.2.2).bind fun t241 => (if t241 = true then ((laws_markIntS.f k t215 1).bind fun bt242 => ((laws_markScan.f k bt218.1 bt218.2.1 bt218.2.2.1 bt218.2.2.2.1 bt218.2.2.2.2 bt242.1).bind fun bt244 => (if bt244.1 < 0 then (laws_FnExactFirstOf.j0 k l0 t212 t226 true l1_0 a1_1 a1_2 a1_3 a1_4) else ((laws_eqIntS.f k t226 t212).bind fun t246 => (laws_FnExactFirstOf.j0 k l0 t212 t226 (!t246) l1_0 a1_1 a1_2 a1_3 a1_4))))) else (some false)))) else (some false)))) else (some false)))))))))))) = some r := h
  clear h
  by_cases c3 : (l0.length : Int) > 1048576
  · rw [if_pos c3] at H
    have c3b0 : decide (1048576 < (l0.length : Int)) = true := decide_eq_true c3
    have c3b1 : decide (1048576 < l0.length) = true := decide_eq_true (by omega)
    clear c3
    obtain rfl := Option.some.inj H
    go_enter Try.func3, Try.ntmps3
    go_wp2_with (first | ((with_reducible refine gate_dst (N := 3) rfl ?_); refine box_event ?hg (N := 3) ?hd (cs := #[.slice A1_0 l1_0.length c1_0, .int .i64 a1_1, .int .i64 a1_2, .int .i64 a1_3, .int .i64 a1_4]) (t := 24) ?hr ?_; (case hd => rfl); (case hg => rfl); (case hr => first | (go_simp; done) | (go_simp; rfl)); intro gb200 hg w4 hbox hb; have n0_ := Aside0.mk (below_step (by repeat (first | (with_reducible first | exact HB.out | apply below_alloc | apply pw_below_drewN | apply below_drew1) | exact HB.out)) hb); have n1_ := Aside0.mk (hbox); have n2_ := Aside0.mk ((by rw [hg]; exact (below_size (by repeat (first | (with_reducible first | exact HB.out | apply below_alloc | apply pw_below_drewN | apply below_drew1) | exact HB.out))) : w.heap.size ≤ gb200)); have n3_ := Aside0.mk ((by rw [hg]; exact (below_size (by repeat (first | (with_reducible first | exact HB.out | apply below_alloc | apply pw_below_drewN | apply below_drew1) | exact HB.out))) : w.heap.size ≤ gb200)); clear HB; have HB := n0_; have BK200 := n1_; have GW200 := n2_; have GE200 := n3_; clear n0_ n1_ n2_ n3_; clear hb hbox hg))
    go_ret
    exact ⟨by first | rfl | (simp [errW_none, errW_some] <;> rfl) | (simp [*, errW_none, errW_some] <;> rfl), by repeat (first | (with_reducible first | exact HB.out | apply below_alloc | apply pw_below_drewN | apply below_drew1 | refine below_set ?_ GE200.out) | exact HB.out)⟩
  · rw [if_neg c3] at H
    have c3b0 : decide (1048576 < (l0.length : Int)) = false := decide_eq_false c3
    have c3b1 : decide (1048576 < l0.length) = false := decide_eq_false (by omega)
    clear c3
    replace H := Option.bind_eq_some_iff.mp H
    obtain ⟨t201, A50, H⟩ := H
    replace H : (if t201 < 0 then (some true) else ((laws_toIntS.f k l0).bind fun t202 => ((laws_toScan.f k l1_0 a1_1 a1_2 a1_3 a1_4).bind fun bt205 => ((spec_FirstOf.f k t202 bt205.1 bt205.2.1 bt205.2.2.1 bt205.2.2.2.1 bt205.2.2.2.2).bind fun t212 => ((laws_toIntS.f k l0).bind fun t215 => ((laws_toScan.f k l1_0 a1_1 a1_2 a1_3 a1_4).bind fun bt218 => ((impl_FirstOf.f k t215 bt218.1 bt218.2.1 bt218.2.2.1 bt218.2.2.2.1 bt218.2.2.2.2).bind fun t226 => ((laws_eqIntS.f k t226 t212).bind fun t229 => (if t229 = true then ((laws_toIntS.f k l0).bind fun t230 => ((laws_eqIntS.f k t215 t230).bind fun t233 => (if t233 = true then ((laws_toScan.f k l1_0 a1_1 a1_2 a1_3 a1_4).bind fun bt234 => ((laws_eqScan.f k bt218.1 bt218.2.1 bt218.2.2.1 bt218.2.2.2.1 bt218.2.2.2.2 bt234.1 bt234.2.1 bt234.2.2.1 bt234.2.2.2.1 bt234.2.2.2.2).bind fun t241 => (if t241 = true then ((laws_markIntS.f k t215 1).bind fun bt242 => ((laws_markScan.f k bt218.1 bt218.2.1 bt218.2.2.1 bt218.2.2.2.1 bt218.2.2.2.2 bt242.1).bind fun bt244 => (if bt244.1 < 0 then (laws_FnExactFirstOf.j0 k l0 t212 t226 true l1_0 a1_1 a1_2 a1_3 a1_4) else ((laws_eqIntS.f k t226 t212).bind fun t246 => (laws_FnExactFirstOf.j0 k l0 t212 t226 (!t246) l1_0 a1_1 a1_2 a1_3 a1_4))))) else (some false)))) else (some false)))) else (some false)))))))))) = some r := H
    have A5 := Aside0.mk A50
    clear A50
    by_cases c6 : t201 < 0
    · rw [if_pos c6] at H
      have c6b0 : decide (t201 < 0) = true := decide_eq_true c6
      clear c6
      obtain rfl := Option.some.inj H
      go_enter Try.func3, Try.ntmps3
      go_wp2_with (first | ((with_reducible refine gate_dst (N := 3) rfl ?_); refine box_event ?hg (N := 3) ?hd (cs := #[.slice A1_0 l1_0.length c1_0, .int .i64 a1_1, .int .i64 a1_2, .int .i64 a1_3, .int .i64 a1_4]) (t := 24) ?hr ?_; (case hd => rfl); (case hg => rfl); (case hr => first | (go_simp; done) | (go_simp; rfl)); intro gb200 hg w7 hbox hb; have n0_ := Aside0.mk (below_step (by repeat (first | (with_reducible first | exact HB.out | apply below_alloc | apply pw_below_drewN | apply below_drew1) | exact HB.out)) hb); have n1_ := Aside0.mk (hbox); have n2_ := Aside0.mk ((by rw [hg]; exact (below_size (by repeat (first | (with_reducible first | exact HB.out | apply below_alloc | apply pw_below_drewN | apply below_drew1) | exact HB.out))) : w.heap.size ≤ gb200)); have n3_ := Aside0.mk ((by rw [hg]; exact (below_size (by repeat (first | (with_reducible first | exact HB.out | apply below_alloc | apply pw_below_drewN | apply below_drew1) | exact HB.out))) : w.heap.size ≤ gb200)); clear HB; have HB := n0_; have BK200 := n1_; have GW200 := n2_; have GE200 := n3_; clear n0_ n1_ n2_ n3_; clear hb hbox hg; have hcz8_0 : w7.cell? ⟨gb200, 0, none⟩ = some (.slice A1_0 l1_0.length c1_0) := (blk_cell BK200.out 0).trans rfl; have hcz8_1 : w7.cell? ⟨gb200, 1, none⟩ = some (.int .i64 a1_1) := (blk_cell BK200.out 1).trans rfl; have hcz8_2 : w7.cell? ⟨gb200, 2, none⟩ = some (.int .i64 a1_2) := (blk_cell BK200.out 2).trans rfl; have hcz8_3 : w7.cell? ⟨gb200, 3, none⟩ = some (.int .i64 a1_3) := (blk_cell BK200.out 3).trans rfl; have hcz8_4 : w7.cell? ⟨gb200, 4, none⟩ = some (.int .i64 a1_4) := (blk_cell BK200.out 4).trans rfl; have hfz8_0 := blk_frozen BK200.out 0; have hfz8_1 := blk_frozen BK200.out 1; have hfz8_2 := blk_frozen BK200.out 2; have hfz8_3 := blk_frozen BK200.out 3; have hfz8_4 := blk_frozen BK200.out 4) | ((with_reducible refine gate_callee (f := 15) rfl ?_); refine goesL_ (some 19) rfl rfl Try.func15 (by kernel_rfl) rfl #[.agg #[.slice A1_0 l1_0.length c1_0, .int .i64 a1_1, .int .i64 a1_2, .int .i64 a1_3, .int .i64 a1_4], .int .i64 1048576] rfl (by (try simp only [List.map_toArray, List.map_cons, List.map_nil]); first | done | rfl | (simp only [List.length_drop, List.length_take]; rfl)) ?_; (with_reducible refine (laws_szScan.calls _ _ l1_0 a1_1 a1_2 a1_3 a1_4 1048576 t201 _ ?side1 ?side2 A5.out).mono ?_); (case side1 => repeat (first | exact (Kd.C_below HR1_0.out HB.out) | (with_reducible refine Kd.C_alloc ?_ _) | (with_reducible refine Kd.C_drewN ?_ _) | (with_reducible refine Kd.C_drew ?_))); (case side2 => exact HC1_0.out); rintro e w9 ⟨rfl, hb⟩; refine ⟨_, rfl, ?_⟩; have n0_ := Aside0.mk (blk_below (g := gb200) (o := .cells #[.slice A1_0 l1_0.length c1_0, .int .i64 a1_1, .int .i64 a1_2, .int .i64 a1_3, .int .i64 a1_4] 24 (0, 0)) (by (with_reducible repeat (first | refine blk_drewN ?_ _ | refine blk_drew ?_ | refine blk_alloc ?_ _)); exact BK200.out) hb); have n1_ := Aside0.mk (below_step (by repeat (first | (with_reducible first | exact HB.out | apply below_alloc | apply pw_below_drewN | apply below_drew1 | refine below_set ?_ GE200.out) | exact HB.out)) hb); clear BK200; clear HB; have BK200 := n0_; have HB := n1_; clear n0_ n1_; (try clear hb); (try clear hb2); (try clear hk); (try clear hi)))
      go_ret
      exact ⟨by first | rfl | (simp [errW_none, errW_some] <;> rfl) | (simp [*, errW_none, errW_some] <;> rfl), by repeat (first | (with_reducible first | exact HB.out | apply below_alloc | apply pw_below_drewN | apply below_drew1 | refine below_set ?_ GE200.out) | exact HB.out)⟩
    · rw [if_neg c6] at H
      have c6b0 : decide (t201 < 0) = false := decide_eq_false c6
      clear c6
      replace H := Option.bind_eq_some_iff.mp H
      obtain ⟨t202, A100, H⟩ := H
      replace H : ((laws_toScan.f k l1_0 a1_1 a1_2 a1_3 a1_4).bind fun bt205 => ((spec_FirstOf.f k t202 bt205.1 bt205.2.1 bt205.2.2.1 bt205.2.2.2.1 bt205.2.2.2.2).bind fun t212 => ((laws_toIntS.f k l0).bind fun t215 => ((laws_toScan.f k l1_0 a1_1 a1_2 a1_3 a1_4).bind fun bt218 => ((impl_FirstOf.f k t215 bt218.1 bt218.2.1 bt218.2.2.1 bt218.2.2.2.1 bt218.2.2.2.2).bind fun t226 => ((laws_eqIntS.f k t226 t212).bind fun t229 => (if t229 = true then ((laws_toIntS.f k l0).bind fun t230 => ((laws_eqIntS.f k t215 t230).bind fun t233 => (if t233 = true then ((laws_toScan.f k l1_0 a1_1 a1_2 a1_3 a1_4).bind fun bt234 => ((laws_eqScan.f k bt218.1 bt218.2.1 bt218.2.2.1 bt218.2.2.2.1 bt218.2.2.2.2 bt234.1 bt234.2.1 bt234.2.2.1 bt234.2.2.2.1 bt234.2.2.2.2).bind fun t241 => (if t241 = true then ((laws_markIntS.f k t215 1).bind fun bt242 => ((laws_markScan.f k bt218.1 bt218.2.1 bt218.2.2.1 bt218.2.2.2.1 bt218.2.2.2.2 bt242.1).bind fun bt244 => (if bt244.1 < 0 then (laws_FnExactFirstOf.j0 k l0 t212 t226 true l1_0 a1_1 a1_2 a1_3 a1_4) else ((laws_eqIntS.f k t226 t212).bind fun t246 => (laws_FnExactFirstOf.j0 k l0 t212 t226 (!t246) l1_0 a1_1 a1_2 a1_3 a1_4))))) else (some false)))) else (some false)))) else (some false)))))))) = some r := H
      have A10 := Aside0.mk A100
      clear A100
      replace H := Option.bind_eq_some_iff.mp H
      obtain ⟨⟨t205, t208, t209, t210, t211⟩, A110, H⟩ := H
      replace H : ((spec_FirstOf.f k t202 t205 t208 t209 t210 t211).bind fun t212 => ((laws_toIntS.f k l0).bind fun t215 => ((laws_toScan.f k l1_0 a1_1 a1_2 a1_3 a1_4).bind fun bt218 => ((impl_FirstOf.f k t215 bt218.1 bt218.2.1 bt218.2.2.1 bt218.2.2.2.1 bt218.2.2.2.2).bind fun t226 => ((laws_eqIntS.f k t226 t212).bind fun t229 => (if t229 = true then ((laws_toIntS.f k l0).bind fun t230 => ((laws_eqIntS.f k t215 t230).bind fun t233 => (if t233 = true then ((laws_toScan.f k l1_0 a1_1 a1_2 a1_3 a1_4).bind fun bt234 => ((laws_eqScan.f k bt218.1 bt218.2.1 bt218.2.2.1 bt218.2.2.2.1 bt218.2.2.2.2 bt234.1 bt234.2.1 bt234.2.2.1 bt234.2.2.2.1 bt234.2.2.2.2).bind fun t241 => (if t241 = true then ((laws_markIntS.f k t215 1).bind fun bt242 => ((laws_markScan.f k bt218.1 bt218.2.1 bt218.2.2.1 bt218.2.2.2.1 bt218.2.2.2.2 bt242.1).bind fun bt244 => (if bt244.1 < 0 then (laws_FnExactFirstOf.j0 k l0 t212 t226 true l1_0 a1_1 a1_2 a1_3 a1_4) else ((laws_eqIntS.f k t226 t212).bind fun t246 => (laws_FnExactFirstOf.j0 k l0 t212 t226 (!t246) l1_0 a1_1 a1_2 a1_3 a1_4))))) else (some false)))) else (some false)))) else (some false))))))) = some r := H
      have A11 := Aside0.mk A110
      clear A110
      replace H := Option.bind_eq_some_iff.mp H
      obtain ⟨t212, A120, H⟩ := H
      replace H : ((laws_toIntS.f k l0).bind fun t215 => ((laws_toScan.f k l1_0 a1_1 a1_2 a1_3 a1_4).bind fun bt218 => ((impl_FirstOf.f k t215 bt218.1 bt218.2.1 bt218.2.2.1 bt218.2.2.2.1 bt218.2.2.2.2).bind fun t226 => ((laws_eqIntS.f k t226 t212).bind fun t229 => (if t229 = true then ((laws_toIntS.f k l0).bind fun t230 => ((laws_eqIntS.f k t215 t230).bind fun t233 => (if t233 = true then ((laws_toScan.f k l1_0 a1_1 a1_2 a1_3 a1_4).bind fun bt234 => ((laws_eqScan.f k bt218.1 bt218.2.1 bt218.2.2.1 bt218.2.2.2.1 bt218.2.2.2.2 bt234.1 bt234.2.1 bt234.2.2.1 bt234.2.2.2.1 bt234.2.2.2.2).bind fun t241 => (if t241 = true then ((laws_markIntS.f k t215 1).bind fun bt242 => ((laws_markScan.f k bt218.1 bt218.2.1 bt218.2.2.1 bt218.2.2.2.1 bt218.2.2.2.2 bt242.1).bind fun bt244 => (if bt244.1 < 0 then (laws_FnExactFirstOf.j0 k l0 t212 t226 true l1_0 a1_1 a1_2 a1_3 a1_4) else ((laws_eqIntS.f k t226 t212).bind fun t246 => (laws_FnExactFirstOf.j0 k l0 t212 t226 (!t246) l1_0 a1_1 a1_2 a1_3 a1_4))))) else (some false)))) else (some false)))) else (some false)))))) = some r := H
      have A12 := Aside0.mk A120
      clear A120
      replace H := Option.bind_eq_some_iff.mp H
      obtain ⟨t215, A130, H⟩ := H
      replace H : ((laws_toScan.f k l1_0 a1_1 a1_2 a1_3 a1_4).bind fun bt218 => ((impl_FirstOf.f k t215 bt218.1 bt218.2.1 bt218.2.2.1 bt218.2.2.2.1 bt218.2.2.2.2).bind fun t226 => ((laws_eqIntS.f k t226 t212).bind fun t229 => (if t229 = true then ((laws_toIntS.f k l0).bind fun t230 => ((laws_eqIntS.f k t215 t230).bind fun t233 => (if t233 = true then ((laws_toScan.f k l1_0 a1_1 a1_2 a1_3 a1_4).bind fun bt234 => ((laws_eqScan.f k bt218.1 bt218.2.1 bt218.2.2.1 bt218.2.2.2.1 bt218.2.2.2.2 bt234.1 bt234.2.1 bt234.2.2.1 bt234.2.2.2.1 bt234.2.2.2.2).bind fun t241 => (if t241 = true then ((laws_markIntS.f k t215 1).bind fun bt242 => ((laws_markScan.f k bt218.1 bt218.2.1 bt218.2.2.1 bt218.2.2.2.1 bt218.2.2.2.2 bt242.1).bind fun bt244 => (if bt244.1 < 0 then (laws_FnExactFirstOf.j0 k l0 t212 t226 true l1_0 a1_1 a1_2 a1_3 a1_4) else ((laws_eqIntS.f k t226 t212).bind fun t246 => (laws_FnExactFirstOf.j0 k l0 t212 t226 (!t246) l1_0 a1_1 a1_2 a1_3 a1_4))))) else (some false)))) else (some false)))) else (some false))))) = some r := H
      have A13 := Aside0.mk A130
      clear A130
      replace H := Option.bind_eq_some_iff.mp H
      obtain ⟨⟨t218, t221, t222, t223, t224⟩, A140, H⟩ := H
      replace H : ((impl_FirstOf.f k t215 t218 t221 t222 t223 t224).bind fun t226 => ((laws_eqIntS.f k t226 t212).bind fun t229 => (if t229 = true then ((laws_toIntS.f k l0).bind fun t230 => ((laws_eqIntS.f k t215 t230).bind fun t233 => (if t233 = true then ((laws_toScan.f k l1_0 a1_1 a1_2 a1_3 a1_4).bind fun bt234 => ((laws_eqScan.f k t218 t221 t222 t223 t224 bt234.1 bt234.2.1 bt234.2.2.1 bt234.2.2.2.1 bt234.2.2.2.2).bind fun t241 => (if t241 = true then ((laws_markIntS.f k t215 1).bind fun bt242 => ((laws_markScan.f k t218 t221 t222 t223 t224 bt242.1).bind fun bt244 => (if bt244.1 < 0 then (laws_FnExactFirstOf.j0 k l0 t212 t226 true l1_0 a1_1 a1_2 a1_3 a1_4) else ((laws_eqIntS.f k t226 t212).bind fun t246 => (laws_FnExactFirstOf.j0 k l0 t212 t226 (!t246) l1_0 a1_1 a1_2 a1_3 a1_4))))) else (some false)))) else (some false)))) else (some false)))) = some r := H
      have A14 := Aside0.mk A140
      clear A140
      replace H := Option.bind_eq_some_iff.mp H
      obtain ⟨t226, A150, H⟩ := H
      replace H : ((laws_eqIntS.f k t226 t212).bind fun t229 => (if t229 = true then ((laws_toIntS.f k l0).bind fun t230 => ((laws_eqIntS.f k t215 t230).bind fun t233 => (if t233 = true then ((laws_toScan.f k l1_0 a1_1 a1_2 a1_3 a1_4).bind fun bt234 => ((laws_eqScan.f k t218 t221 t222 t223 t224 bt234.1 bt234.2.1 bt234.2.2.1 bt234.2.2.2.1 bt234.2.2.2.2).bind fun t241 => (if t241 = true then ((laws_markIntS.f k t215 1).bind fun bt242 => ((laws_markScan.f k t218 t221 t222 t223 t224 bt242.1).bind fun bt244 => (if bt244.1 < 0 then (laws_FnExactFirstOf.j0 k l0 t212 t226 true l1_0 a1_1 a1_2 a1_3 a1_4) else ((laws_eqIntS.f k t226 t212).bind fun t246 => (laws_FnExactFirstOf.j0 k l0 t212 t226 (!t246) l1_0 a1_1 a1_2 a1_3 a1_4))))) else (some false)))) else (some false)))) else (some false))) = some r := H
      have A15 := Aside0.mk A150
      clear A150
      replace H := Option.bind_eq_some_iff.mp H
      obtain ⟨t229, A160, H⟩ := H
      replace H : (if t229 = true then ((laws_toIntS.f k l0).bind fun t230 => ((laws_eqIntS.f k t215 t230).bind fun t233 => (if t233 = true then ((laws_toScan.f k l1_0 a1_1 a1_2 a1_3 a1_4).bind fun bt234 => ((laws_eqScan.f k t218 t221 t222 t223 t224 bt234.1 bt234.2.1 bt234.2.2.1 bt234.2.2.2.1 bt234.2.2.2.2).bind fun t241 => (if t241 = true then ((laws_markIntS.f k t215 1).bind fun bt242 => ((laws_markScan.f k t218 t221 t222 t223 t224 bt242.1).bind fun bt244 => (if bt244.1 < 0 then (laws_FnExactFirstOf.j0 k l0 t212 t226 true l1_0 a1_1 a1_2 a1_3 a1_4) else ((laws_eqIntS.f k t226 t212).bind fun t246 => (laws_FnExactFirstOf.j0 k l0 t212 t226 (!t246) l1_0 a1_1 a1_2 a1_3 a1_4))))) else (some false)))) else (some false)))) else (some false)) = some r := H
      have A16 := Aside0.mk A160
      clear A160
      by_cases c17 : t229 = true
      · subst c17
        have H1 : ((laws_toIntS.f k l0).bind fun t230 => ((laws_eqIntS.f k t215 t230).bind fun t233 => (if t233 = true then ((laws_toScan.f k l1_0 a1_1 a1_2 a1_3 a1_4).bind fun bt234 => ((laws_eqScan.f k t218 t221 t222 t223 t224 bt234.1 bt234.2.1 bt234.2.2.1 bt234.2.2.2.1 bt234.2.2.2.2).bind fun t241 => (if t241 = true then ((laws_markIntS.f k t215 1).bind fun bt242 => ((laws_markScan.f k t218 t221 t222 t223 t224 bt242.1).bind fun bt244 => (if bt244.1 < 0 then (laws_FnExactFirstOf.j0 k l0 t212 t226 true l1_0 a1_1 a1_2 a1_3 a1_4) else ((laws_eqIntS.f k t226 t212).bind fun t246 => (laws_FnExactFirstOf.j0 k l0 t212 t226 (!t246) l1_0 a1_1 a1_2 a1_3 a1_4))))) else (some false)))) else (some false)))) = some r := by rw [if_pos rfl] at H; exact H
        clear H
        have H := H1
        clear H1
        replace H := Option.bind_eq_some_iff.mp H
        obtain ⟨t230, A180, H⟩ := H
        replace H : ((laws_eqIntS.f k t215 t230).bind fun t233 => (if t233 = true then ((laws_toScan.f k l1_0 a1_1 a1_2 a1_3 a1_4).bind fun bt234 => ((laws_eqScan.f k t218 t221 t222 t223 t224 bt234.1 bt234.2.1 bt234.2.2.1 bt234.2.2.2.1 bt234.2.2.2.2).bind fun t241 => (if t241 = true then ((laws_markIntS.f k t215 1).bind fun bt242 => ((laws_markScan.f k t218 t221 t222 t223 t224 bt242.1).bind fun bt244 => (if bt244.1 < 0 then (laws_FnExactFirstOf.j0 k l0 t212 t226 true l1_0 a1_1 a1_2 a1_3 a1_4) else ((laws_eqIntS.f k t226 t212).bind fun t246 => (laws_FnExactFirstOf.j0 k l0 t212 t226 (!t246) l1_0 a1_1 a1_2 a1_3 a1_4))))) else (some false)))) else (some false))) = some r := H
        have A18 := Aside0.mk A180
        clear A180
        replace H := Option.bind_eq_some_iff.mp H
        obtain ⟨t233, A190, H⟩ := H
        replace H : (if t233 = true then ((laws_toScan.f k l1_0 a1_1 a1_2 a1_3 a1_4).bind fun bt234 => ((laws_eqScan.f k t218 t221 t222 t223 t224 bt234.1 bt234.2.1 bt234.2.2.1 bt234.2.2.2.1 bt234.2.2.2.2).bind fun t241 => (if t241 = true then ((laws_markIntS.f k t215 1).bind fun bt242 => ((laws_markScan.f k t218 t221 t222 t223 t224 bt242.1).bind fun bt244 => (if bt244.1 < 0 then (laws_FnExactFirstOf.j0 k l0 t212 t226 true l1_0 a1_1 a1_2 a1_3 a1_4) else ((laws_eqIntS.f k t226 t212).bind fun t246 => (laws_FnExactFirstOf.j0 k l0 t212 t226 (!t246) l1_0 a1_1 a1_2 a1_3 a1_4))))) else (some false)))) else (some false)) = some r := H
        have A19 := Aside0.mk A190
        clear A190
        by_cases c20 : t233 = true
        · subst c20
          have H1 : ((laws_toScan.f k l1_0 a1_1 a1_2 a1_3 a1_4).bind fun bt234 => ((laws_eqScan.f k t218 t221 t222 t223 t224 bt234.1 bt234.2.1 bt234.2.2.1 bt234.2.2.2.1 bt234.2.2.2.2).bind fun t241 => (if t241 = true then ((laws_markIntS.f k t215 1).bind fun bt242 => ((laws_markScan.f k t218 t221 t222 t223 t224 bt242.1).bind fun bt244 => (if bt244.1 < 0 then (laws_FnExactFirstOf.j0 k l0 t212 t226 true l1_0 a1_1 a1_2 a1_3 a1_4) else ((laws_eqIntS.f k t226 t212).bind fun t246 => (laws_FnExactFirstOf.j0 k l0 t212 t226 (!t246) l1_0 a1_1 a1_2 a1_3 a1_4))))) else (some false)))) = some r := by rw [if_pos rfl] at H; exact H
          clear H
          have H := H1
          clear H1
          replace H := Option.bind_eq_some_iff.mp H
          obtain ⟨⟨t234, t237, t238, t239, t240⟩, A210, H⟩ := H
          replace H : ((laws_eqScan.f k t218 t221 t222 t223 t224 t234 t237 t238 t239 t240).bind fun t241 => (if t241 = true then ((laws_markIntS.f k t215 1).bind fun bt242 => ((laws_markScan.f k t218 t221 t222 t223 t224 bt242.1).bind fun bt244 => (if bt244.1 < 0 then (laws_FnExactFirstOf.j0 k l0 t212 t226 true l1_0 a1_1 a1_2 a1_3 a1_4) else ((laws_eqIntS.f k t226 t212).bind fun t246 => (laws_FnExactFirstOf.j0 k l0 t212 t226 (!t246) l1_0 a1_1 a1_2 a1_3 a1_4))))) else (some false))) = some r := H
          have A21 := Aside0.mk A210
          clear A210
          replace H := Option.bind_eq_some_iff.mp H
          obtain ⟨t241, A220, H⟩ := H
          replace H : (if t241 = true then ((laws_markIntS.f k t215 1).bind fun bt242 => ((laws_markScan.f k t218 t221 t222 t223 t224 bt242.1).bind fun bt244 => (if bt244.1 < 0 then (laws_FnExactFirstOf.j0 k l0 t212 t226 true l1_0 a1_1 a1_2 a1_3 a1_4) else ((laws_eqIntS.f k t226 t212).bind fun t246 => (laws_FnExactFirstOf.j0 k l0 t212 t226 (!t246) l1_0 a1_1 a1_2 a1_3 a1_4))))) else (some false)) = some r := H
          have A22 := Aside0.mk A220
          clear A220
          by_cases c23 : t241 = true
          · subst c23
            have H1 : ((laws_markIntS.f k t215 1).bind fun bt242 => ((laws_markScan.f k t218 t221 t222 t223 t224 bt242.1).bind fun bt244 => (if bt244.1 < 0 then (laws_FnExactFirstOf.j0 k l0 t212 t226 true l1_0 a1_1 a1_2 a1_3 a1_4) else ((laws_eqIntS.f k t226 t212).bind fun t246 => (laws_FnExactFirstOf.j0 k l0 t212 t226 (!t246) l1_0 a1_1 a1_2 a1_3 a1_4))))) = some r := by rw [if_pos rfl] at H; exact H
            clear H
            have H := H1
            clear H1
            replace H := Option.bind_eq_some_iff.mp H
            obtain ⟨⟨t242, t243⟩, A240, H⟩ := H
            replace H : ((laws_markScan.f k t218 t221 t222 t223 t224 t242).bind fun bt244 => (if bt244.1 < 0 then (laws_FnExactFirstOf.j0 k l0 t212 t226 true l1_0 a1_1 a1_2 a1_3 a1_4) else ((laws_eqIntS.f k t226 t212).bind fun t246 => (laws_FnExactFirstOf.j0 k l0 t212 t226 (!t246) l1_0 a1_1 a1_2 a1_3 a1_4)))) = some r := H
            have A24 := Aside0.mk A240
            clear A240
            replace H := Option.bind_eq_some_iff.mp H
            obtain ⟨⟨t244, t245⟩, A250, H⟩ := H
            replace H : (if t244 < 0 then (laws_FnExactFirstOf.j0 k l0 t212 t226 true l1_0 a1_1 a1_2 a1_3 a1_4) else ((laws_eqIntS.f k t226 t212).bind fun t246 => (laws_FnExactFirstOf.j0 k l0 t212 t226 (!t246) l1_0 a1_1 a1_2 a1_3 a1_4))) = some r := H
            have A25 := Aside0.mk A250
            clear A250
            have HC26 := Aside0.mk H
            clear H
            go_enter Try.func3, Try.ntmps3
            try go_wp2_with (first | ((with_reducible refine gate_dst (N := 3) rfl ?_); refine box_event ?hg (N := 3) ?hd (cs := #[.slice A1_0 l1_0.length c1_0, .int .i64 a1_1, .int .i64 a1_2, .int .i64 a1_3, .int .i64 a1_4]) (t := 24) ?hr ?_; (case hd => rfl); (case hg => rfl); (case hr => first | (go_simp; done) | (go_simp; rfl)); intro gb200 hg w27 hbox hb; have n0_ := Aside0.mk (below_step (by repeat (first | (with_reducible first | exact HB.out | apply below_alloc | apply pw_below_drewN | apply below_drew1) | exact HB.out)) hb); have n1_ := Aside0.mk (hbox); have n2_ := Aside0.mk ((by rw [hg]; exact (below_size (by repeat (first | (with_reducible first | exact HB.out | apply below_alloc | apply pw_below_drewN | apply below_drew1) | exact HB.out))) : w.heap.size ≤ gb200)); have n3_ := Aside0.mk ((by rw [hg]; exact (below_size (by repeat (first | (with_reducible first | exact HB.out | apply below_alloc | apply pw_below_drewN | apply below_drew1) | exact HB.out))) : w.heap.size ≤ gb200)); clear HB; have HB := n0_; have BK200 := n1_; have GW200 := n2_; have GE200 := n3_; clear n0_ n1_ n2_ n3_; clear hb hbox hg; have hcz28_0 : w27.cell? ⟨gb200, 0, none⟩ = some (.slice A1_0 l1_0.length c1_0) := (blk_cell BK200.out 0).trans rfl; have hcz28_1 : w27.cell? ⟨gb200, 1, none⟩ = some (.int .i64 a1_1) := (blk_cell BK200.out 1).trans rfl; have hcz28_2 : w27.cell? ⟨gb200, 2, none⟩ = some (.int .i64 a1_2) := (blk_cell BK200.out 2).trans rfl; have hcz28_3 : w27.cell? ⟨gb200, 3, none⟩ = some (.int .i64 a1_3) := (blk_cell BK200.out 3).trans rfl; have hcz28_4 : w27.cell? ⟨gb200, 4, none⟩ = some (.int .i64 a1_4) := (blk_cell BK200.out 4).trans rfl; have hfz28_0 := blk_frozen BK200.out 0; have hfz28_1 := blk_frozen BK200.out 1; have hfz28_2 := blk_frozen BK200.out 2; have hfz28_3 := blk_frozen BK200.out 3; have hfz28_4 := blk_frozen BK200.out 4) | ((with_reducible refine gate_callee (f := 15) rfl ?_); refine goesL_ (some 19) rfl rfl Try.func15 (by kernel_rfl) rfl #[.agg #[.slice A1_0 l1_0.length c1_0, .int .i64 a1_1, .int .i64 a1_2, .int .i64 a1_3, .int .i64 a1_4], .int .i64 1048576] rfl (by (try simp only [List.map_toArray, List.map_cons, List.map_nil]); first | done | rfl | (simp only [List.length_drop, List.length_take]; rfl)) ?_; (with_reducible refine (laws_szScan.calls _ _ l1_0 a1_1 a1_2 a1_3 a1_4 1048576 t201 _ ?side1 ?side2 A5.out).mono ?_); (case side1 => repeat (first | exact (Kd.C_below HR1_0.out HB.out) | (with_reducible refine Kd.C_alloc ?_ _) | (with_reducible refine Kd.C_drewN ?_ _) | (with_reducible refine Kd.C_drew ?_))); (case side2 => exact HC1_0.out); rintro e w29 ⟨rfl, hb⟩; refine ⟨_, rfl, ?_⟩; have n0_ := Aside0.mk (blk_below (g := gb200) (o := .cells #[.slice A1_0 l1_0.length c1_0, .int .i64 a1_1, .int .i64 a1_2, .int .i64 a1_3, .int .i64 a1_4] 24 (0, 0)) (by (with_reducible repeat (first | refine blk_drewN ?_ _ | refine blk_drew ?_ | refine blk_alloc ?_ _)); exact BK200.out) hb); have n1_ := Aside0.mk (below_step (by repeat (first | (with_reducible first | exact HB.out | apply below_alloc | apply pw_below_drewN | apply below_drew1 | refine below_set ?_ GE200.out) | exact HB.out)) hb); clear BK200; clear HB; have BK200 := n0_; have HB := n1_; clear n0_ n1_; (try clear hb); (try clear hb2); (try clear hk); (try clear hi)))
            have n0_ := Aside0.mk (blk_drew BK200.out)
            have n1_ := Aside0.mk (below_drew1 HB.out)
            clear BK200
            clear HB
            have BK200 := n0_
            have HB := n1_
            clear n0_ n1_
            refine start_ (n := 6) (S := fun w' => w'.cell? ⟨gb200, 0, none⟩ = some (.slice A1_0 l1_0.length c1_0) ∧ w'.cell? ⟨gb200, 1, none⟩ = some (.int .i64 a1_1) ∧ w'.cell? ⟨gb200, 2, none⟩ = some (.int .i64 a1_2) ∧ w'.cell? ⟨gb200, 3, none⟩ = some (.int .i64 a1_3) ∧ w'.cell? ⟨gb200, 4, none⟩ = some (.int .i64 a1_4)) (ds := []) #[false, false, false, false, false, false] (by kernel_rfl) rfl rfl ⟨(blk_cell BK200.out 0).trans rfl, (blk_cell BK200.out 1).trans rfl, (blk_cell BK200.out 2).trans rfl, (blk_cell BK200.out 3).trans rfl, (blk_cell BK200.out 4).trans rfl⟩ (fun hHeld => ?_)
            generalize w29.drew = w30 at BK200 HB hHeld ⊢
            refine pure_ (i := 0) (N := some 22) (v := ?_) (a' := ?_) #[true, false, false, false, false, false] rfl rfl (by kernel_rfl) (fun _ _ _ h => h) (Or.inl ⟨by rfl, ?_⟩) ?_ ?_
            rotate_left
            · intro w'
              go_simp
              with_reducible rfl
            rotate_left
            · simp only [Act.put, List.setIfInBounds_toArray, List.set_cons_zero, List.set_cons_succ, i64_w, i32_w]
              rfl
            refine take_ (i := 2) (N := some 24) (v := ?_) (a' := ?_) #[true, false, true, false, false, false] rfl rfl (by kernel_rfl) (fun _ _ _ h => h) (Or.inl ⟨by rfl, ?_⟩) hHeld ?_ ?_
            rotate_left
            · rintro w' ⟨s0, s1, s2, s3, s4⟩
              go_simp
              with_reducible rfl
            rotate_left
            · simp only [Act.put, List.setIfInBounds_toArray, List.set_cons_zero, List.set_cons_succ, i64_w, i32_w]
              rfl
            refine one_ (i := 1) (N := some 23) #[true, true, true, false, false, false] rfl rfl (by kernel_rfl) (by decide) (fun K hK => ?_)
            refine goes_ Try.func17 (by kernel_rfl) rfl #[.slice A0 l0.length c0] (by rfl) rfl rfl (by (try simp only [List.map_toArray, List.map_cons, List.map_nil]); first | done | rfl | (simp only [List.length_drop, List.length_take]; rfl)) ?_
            with_reducible refine (laws_toIntS.calls k _ _ l0 t202 _ ?side1 ?side2 A10.out).mono ?_
            (case side1 => repeat (first | exact (Kd.C_below HR0.out HB.out) | (with_reducible refine Kd.C_alloc ?_ _) | (with_reducible refine Kd.C_drewN ?_ _) | (with_reducible refine Kd.C_drew ?_)))
            (case side2 => exact HC0.out)
            rintro e w31 ⟨v203, rfl, ho0, hb⟩
            refine ⟨_, rfl, ?_⟩
            have n0_ := Aside0.mk (Kd.R_lower ho0 (below_size (by repeat (first | (with_reducible first | exact HB.out | apply below_alloc | apply pw_below_drewN | apply below_drew1 | refine below_set ?_ GE200.out) | exact HB.out))))
            have n1_ := Aside0.mk (blk_below (g := gb200) (o := .cells #[.slice A1_0 l1_0.length c1_0, .int .i64 a1_1, .int .i64 a1_2, .int .i64 a1_3, .int .i64 a1_4] 24 (0, 0)) (by (with_reducible repeat (first | refine blk_drewN ?_ _ | refine blk_drew ?_ | refine blk_alloc ?_ _)); exact BK200.out) hb)
            have n2_ := Aside0.mk (below_step (by repeat (first | (with_reducible first | exact HB.out | apply below_alloc | apply pw_below_drewN | apply below_drew1 | refine below_set ?_ GE200.out) | exact HB.out)) hb)
            clear BK200
            clear HB
            have HO204 := n0_
            have BK200 := n1_
            have HB := n2_
            clear n0_ n1_ n2_
            (try clear hb)
            (try clear hb2)
            (try clear hk)
            (try clear hi)
            (try clear ho0)
            refine hK.out _ _ ⟨(blk_cell BK200.out 0).trans rfl, (blk_cell BK200.out 1).trans rfl, (blk_cell BK200.out 2).trans rfl, (blk_cell BK200.out 3).trans rfl, (blk_cell BK200.out 4).trans rfl⟩ (fun hHeld => ?_)
            clear hK K
            refine norm_ (a' := ?_) ?_ ?_
            rotate_left
            · show Act.put _ (some 23) _ = _
              simp only [Act.put, List.setIfInBounds_toArray, List.set_cons_zero, List.set_cons_succ, i64_w, i32_w]
              rfl
            refine one_ (i := 3) (N := some 25) #[true, true, true, true, false, false] rfl rfl (by kernel_rfl) (by decide) (fun K hK => ?_)
            refine goes_ Try.func18 (by kernel_rfl) rfl #[.agg #[.slice A1_0 l1_0.length c1_0, .int .i64 a1_1, .int .i64 a1_2, .int .i64 a1_3, .int .i64 a1_4]] (by rfl) rfl rfl (by (try simp only [List.map_toArray, List.map_cons, List.map_nil]); first | done | rfl | (simp only [List.length_drop, List.length_take]; rfl)) ?_
            with_reducible refine (laws_toScan.calls k _ _ l1_0 a1_1 a1_2 a1_3 a1_4 t205 t208 t209 t210 t211 _ ?side1 ?side2 A11.out).mono ?_
            (case side1 => repeat (first | exact (Kd.C_below HR1_0.out HB.out) | (with_reducible refine Kd.C_alloc ?_ _) | (with_reducible refine Kd.C_drewN ?_ _) | (with_reducible refine Kd.C_drew ?_)))
            (case side2 => exact HC1_0.out)
            rintro e w32 ⟨v206, rfl, ho0, hb⟩
            refine ⟨_, rfl, ?_⟩
            have n0_ := Aside0.mk (Kd.R_elder' (by (with_reducible repeat (first | apply Kd.R_alloc | apply Kd.R_drewN | apply Kd.R_drew)); exact HO204.out) (Kd.R_base ho0) hb)
            have n1_ := Aside0.mk (Kd.R_lower (Kd.R_new' ho0 (Kd.R_lt (by (with_reducible repeat (first | apply Kd.R_alloc | apply Kd.R_drewN | apply Kd.R_drew)); exact HO204.out))) (below_size (by repeat (first | (with_reducible first | exact HB.out | apply below_alloc | apply pw_below_drewN | apply below_drew1 | refine below_set ?_ GE200.out) | exact HB.out))))
            have n2_ := Aside0.mk (blk_below (g := gb200) (o := .cells #[.slice A1_0 l1_0.length c1_0, .int .i64 a1_1, .int .i64 a1_2, .int .i64 a1_3, .int .i64 a1_4] 24 (0, 0)) (by (with_reducible repeat (first | refine blk_drewN ?_ _ | refine blk_drew ?_ | refine blk_alloc ?_ _)); exact BK200.out) hb)
            have n3_ := Aside0.mk (below_step (by repeat (first | (with_reducible first | exact HB.out | apply below_alloc | apply pw_below_drewN | apply below_drew1 | refine below_set ?_ GE200.out) | exact HB.out)) hb)
            clear HO204
            clear BK200
            clear HB
            have HO204 := n0_
            have HO207 := n1_
            have BK200 := n2_
            have HB := n3_
            clear n0_ n1_ n2_ n3_
            (try clear hb)
            (try clear hb2)
            (try clear hk)
            (try clear hi)
            (try clear ho0)
            obtain ⟨Ao33, co33, eo33⟩ := Kd.R_slice HO204.out
            (first | subst eo33 | (injection eo33 with f1_ f2_ f3_; have f4_ := f1_.symm; have f5_ := f3_.symm; clear f1_ f2_ f3_; subst f4_; subst f5_))
            obtain ⟨Ao34, co34, eo34⟩ := Kd.R_slice HO207.out
            (first | subst eo34 | (injection eo34 with f1_ f2_ f3_; have f4_ := f1_.symm; have f5_ := f3_.symm; clear f1_ f2_ f3_; subst f4_; subst f5_))
            refine hK.out _ _ ⟨(blk_cell BK200.out 0).trans rfl, (blk_cell BK200.out 1).trans rfl, (blk_cell BK200.out 2).trans rfl, (blk_cell BK200.out 3).trans rfl, (blk_cell BK200.out 4).trans rfl⟩ (fun hHeld => ?_)
            clear hK K
            refine norm_ (a' := ?_) ?_ ?_
            rotate_left
            · show Act.put _ (some 25) _ = _
              simp only [Act.put, List.setIfInBounds_toArray, List.set_cons_zero, List.set_cons_succ, i64_w, i32_w]
              rfl
            refine one_ (i := 4) (N := some 26) #[true, true, true, true, true, false] rfl rfl (by kernel_rfl) (by decide) (fun K hK => ?_)
            refine goes_ Try.func16 (by kernel_rfl) rfl #[.slice Ao33 t202.length co33, .agg #[.slice Ao34 t205.length co34, .int .i64 t208, .int .i64 t209, .int .i64 t210, .int .i64 t211]] (by rfl) rfl rfl (by (try simp only [List.map_toArray, List.map_cons, List.map_nil]); first | done | rfl | (simp only [List.length_drop, List.length_take]; rfl)) ?_
            with_reducible refine (spec_FirstOf.calls k _ _ t202 _ _ t205 t208 t209 t210 t211 t212 _ ?side1 ?side2 ?side3 ?side4 A12.out).mono ?_
            (case side1 => repeat (first | exact (Kd.R_reads' HO204.out).2.2 | (with_reducible refine Kd.C_alloc ?_ _) | (with_reducible refine Kd.C_drewN ?_ _) | (with_reducible refine Kd.C_drew ?_)))
            (case side2 => exact (Kd.R_reads' HO204.out).2.1)
            (case side3 => repeat (first | exact (Kd.R_reads' HO207.out).2.2 | (with_reducible refine Kd.C_alloc ?_ _) | (with_reducible refine Kd.C_drewN ?_ _) | (with_reducible refine Kd.C_drew ?_)))
            (case side4 => exact (Kd.R_reads' HO207.out).2.1)
            rintro e w35 ⟨v213, rfl, ho0, hb⟩
            refine ⟨_, rfl, ?_⟩
            have n0_ := Aside0.mk (Kd.R_elder' (by (with_reducible repeat (first | apply Kd.R_alloc | apply Kd.R_drewN | apply Kd.R_drew)); exact HO204.out) (Kd.R_base ho0) hb)
            have n1_ := Aside0.mk (Kd.R_elder' (by (with_reducible repeat (first | apply Kd.R_alloc | apply Kd.R_drewN | apply Kd.R_drew)); exact HO207.out) (Kd.R_base ho0) hb)
            have n2_ := Aside0.mk (Kd.R_lower (Kd.R_new' (Kd.R_new' ho0 (Kd.R_lt (by (with_reducible repeat (first | apply Kd.R_alloc | apply Kd.R_drewN | apply Kd.R_drew)); exact HO204.out))) (Kd.R_lt (by (with_reducible repeat (first | apply Kd.R_alloc | apply Kd.R_drewN | apply Kd.R_drew)); exact HO207.out))) (below_size (by repeat (first | (with_reducible first | exact HB.out | apply below_alloc | apply pw_below_drewN | apply below_drew1 | refine below_set ?_ GE200.out) | exact HB.out))))
            have n3_ := Aside0.mk (blk_below (g := gb200) (o := .cells #[.slice A1_0 l1_0.length c1_0, .int .i64 a1_1, .int .i64 a1_2, .int .i64 a1_3, .int .i64 a1_4] 24 (0, 0)) (by (with_reducible repeat (first | refine blk_drewN ?_ _ | refine blk_drew ?_ | refine blk_alloc ?_ _)); exact BK200.out) hb)
            have n4_ := Aside0.mk (below_step (by repeat (first | (with_reducible first | exact HB.out | apply below_alloc | apply pw_below_drewN | apply below_drew1 | refine below_set ?_ GE200.out) | exact HB.out)) hb)
            clear HO204
            clear HO207
            clear BK200
            clear HB
            have HO204 := n0_
            have HO207 := n1_
            have HO214 := n2_
            have BK200 := n3_
            have HB := n4_
            clear n0_ n1_ n2_ n3_ n4_
            (try clear hb)
            (try clear hb2)
            (try clear hk)
            (try clear hi)
            (try clear ho0)
            refine hK.out _ _ ⟨(blk_cell BK200.out 0).trans rfl, (blk_cell BK200.out 1).trans rfl, (blk_cell BK200.out 2).trans rfl, (blk_cell BK200.out 3).trans rfl, (blk_cell BK200.out 4).trans rfl⟩ (fun hHeld => ?_)
            clear hK K
            refine norm_ (a' := ?_) ?_ ?_
            rotate_left
            · show Act.put _ (some 26) _ = _
              simp only [Act.put, List.setIfInBounds_toArray, List.set_cons_zero, List.set_cons_succ, i64_w, i32_w]
              rfl
            refine pure_ (i := 5) (N := some 6) (v := ?_) (a' := ?_) #[true, true, true, true, true, true] rfl rfl (by kernel_rfl) (fun _ _ _ h => h) (Or.inl ⟨by rfl, ?_⟩) ?_ ?_
            rotate_left
            · intro w'
              go_simp
              with_reducible rfl
            rotate_left
            · simp only [Act.put, List.setIfInBounds_toArray, List.set_cons_zero, List.set_cons_succ, i64_w, i32_w]
              rfl
            refine done_ (by kernel_rfl) ?_
            try go_wp2_with (first | ((with_reducible refine gate_callee (f := 17) rfl ?_); refine goesL_ (some 28) rfl rfl Try.func17 (by kernel_rfl) rfl #[.slice A0 l0.length c0] rfl (by (try simp only [List.map_toArray, List.map_cons, List.map_nil]); first | done | rfl | (simp only [List.length_drop, List.length_take]; rfl)) ?_; (with_reducible refine (laws_toIntS.calls k _ _ l0 t215 _ ?side1 ?side2 A13.out).mono ?_); (case side1 => repeat (first | exact (Kd.C_below HR0.out HB.out) | (with_reducible refine Kd.C_alloc ?_ _) | (with_reducible refine Kd.C_drewN ?_ _) | (with_reducible refine Kd.C_drew ?_))); (case side2 => exact HC0.out); rintro e w36 ⟨v216, rfl, ho0, hb⟩; refine ⟨_, rfl, ?_⟩; have n0_ := Aside0.mk (Kd.R_elder' (by (with_reducible repeat (first | apply Kd.R_alloc | apply Kd.R_drewN | apply Kd.R_drew)); exact HO204.out) (Kd.R_base ho0) hb); have n1_ := Aside0.mk (Kd.R_elder' (by (with_reducible repeat (first | apply Kd.R_alloc | apply Kd.R_drewN | apply Kd.R_drew)); exact HO207.out) (Kd.R_base ho0) hb); have n2_ := Aside0.mk (Kd.R_elder' (by (with_reducible repeat (first | apply Kd.R_alloc | apply Kd.R_drewN | apply Kd.R_drew)); exact HO214.out) (Kd.R_base ho0) hb); have n3_ := Aside0.mk (Kd.R_lower (Kd.R_new' (Kd.R_new' (Kd.R_new' ho0 (Kd.R_lt (by (with_reducible repeat (first | apply Kd.R_alloc | apply Kd.R_drewN | apply Kd.R_drew)); exact HO204.out))) (Kd.R_lt (by (with_reducible repeat (first | apply Kd.R_alloc | apply Kd.R_drewN | apply Kd.R_drew)); exact HO207.out))) (Kd.R_lt (by (with_reducible repeat (first | apply Kd.R_alloc | apply Kd.R_drewN | apply Kd.R_drew)); exact HO214.out))) (below_size (by repeat (first | (with_reducible first | exact HB.out | apply below_alloc | apply pw_below_drewN | apply below_drew1 | refine below_set ?_ GE200.out) | exact HB.out)))); have n4_ := Aside0.mk (blk_below (g := gb200) (o := .cells #[.slice A1_0 l1_0.length c1_0, .int .i64 a1_1, .int .i64 a1_2, .int .i64 a1_3, .int .i64 a1_4] 24 (0, 0)) (by (with_reducible repeat (first | refine blk_drewN ?_ _ | refine blk_drew ?_ | refine blk_alloc ?_ _)); exact BK200.out) hb); have n5_ := Aside0.mk (below_step (by repeat (first | (with_reducible first | exact HB.out | apply below_alloc | apply pw_below_drewN | apply below_drew1 | refine below_set ?_ GE200.out) | exact HB.out)) hb); clear HO204; clear HO207; clear HO214; clear BK200; clear HB; have HO204 := n0_; have HO207 := n1_; have HO214 := n2_; have HO217 := n3_; have BK200 := n4_; have HB := n5_; clear n0_ n1_ n2_ n3_ n4_ n5_; (try clear hb); (try clear hb2); (try clear hk); (try clear hi); (try clear ho0); have hcz37_0 : w36.cell? ⟨gb200, 0, none⟩ = some (.slice A1_0 l1_0.length c1_0) := (blk_cell BK200.out 0).trans rfl; have hcz37_1 : w36.cell? ⟨gb200, 1, none⟩ = some (.int .i64 a1_1) := (blk_cell BK200.out 1).trans rfl; have hcz37_2 : w36.cell? ⟨gb200, 2, none⟩ = some (.int .i64 a1_2) := (blk_cell BK200.out 2).trans rfl; have hcz37_3 : w36.cell? ⟨gb200, 3, none⟩ = some (.int .i64 a1_3) := (blk_cell BK200.out 3).trans rfl; have hcz37_4 : w36.cell? ⟨gb200, 4, none⟩ = some (.int .i64 a1_4) := (blk_cell BK200.out 4).trans rfl; have hfz37_0 := blk_frozen BK200.out 0; have hfz37_1 := blk_frozen BK200.out 1; have hfz37_2 := blk_frozen BK200.out 2; have hfz37_3 := blk_frozen BK200.out 3; have hfz37_4 := blk_frozen BK200.out 4) | ((with_reducible refine gate_callee (f := 18) rfl ?_); refine goesL_ (some 30) rfl rfl Try.func18 (by kernel_rfl) rfl #[.agg #[.slice A1_0 l1_0.length c1_0, .int .i64 a1_1, .int .i64 a1_2, .int .i64 a1_3, .int .i64 a1_4]] rfl (by (try simp only [List.map_toArray, List.map_cons, List.map_nil]); first | done | rfl | (simp only [List.length_drop, List.length_take]; rfl)) ?_; (with_reducible refine (laws_toScan.calls k _ _ l1_0 a1_1 a1_2 a1_3 a1_4 t218 t221 t222 t223 t224 _ ?side1 ?side2 A14.out).mono ?_); (case side1 => repeat (first | exact (Kd.C_below HR1_0.out HB.out) | (with_reducible refine Kd.C_alloc ?_ _) | (with_reducible refine Kd.C_drewN ?_ _) | (with_reducible refine Kd.C_drew ?_))); (case side2 => exact HC1_0.out); rintro e w38 ⟨v219, rfl, ho0, hb⟩; refine ⟨_, rfl, ?_⟩; have n0_ := Aside0.mk (Kd.R_elder' (by (with_reducible repeat (first | apply Kd.R_alloc | apply Kd.R_drewN | apply Kd.R_drew)); exact HO204.out) (Kd.R_base ho0) hb); have n1_ := Aside0.mk (Kd.R_elder' (by (with_reducible repeat (first | apply Kd.R_alloc | apply Kd.R_drewN | apply Kd.R_drew)); exact HO207.out) (Kd.R_base ho0) hb); have n2_ := Aside0.mk (Kd.R_elder' (by (with_reducible repeat (first | apply Kd.R_alloc | apply Kd.R_drewN | apply Kd.R_drew)); exact HO214.out) (Kd.R_base ho0) hb); have n3_ := Aside0.mk (Kd.R_elder' (by (with_reducible repeat (first | apply Kd.R_alloc | apply Kd.R_drewN | apply Kd.R_drew)); exact HO217.out) (Kd.R_base ho0) hb); have n4_ := Aside0.mk (Kd.R_lower (Kd.R_new' (Kd.R_new' (Kd.R_new' (Kd.R_new' ho0 (Kd.R_lt (by (with_reducible repeat (first | apply Kd.R_alloc | apply Kd.R_drewN | apply Kd.R_drew)); exact HO204.out))) (Kd.R_lt (by (with_reducible repeat (first | apply Kd.R_alloc | apply Kd.R_drewN | apply Kd.R_drew)); exact HO207.out))) (Kd.R_lt (by (with_reducible repeat (first | apply Kd.R_alloc | apply Kd.R_drewN | apply Kd.R_drew)); exact HO214.out))) (Kd.R_lt (by (with_reducible repeat (first | apply Kd.R_alloc | apply Kd.R_drewN | apply Kd.R_drew)); exact HO217.out))) (below_size (by repeat (first | (with_reducible first | exact HB.out | apply below_alloc | apply pw_below_drewN | apply below_drew1 | refine below_set ?_ GE200.out) | exact HB.out)))); have n5_ := Aside0.mk (blk_below (g := gb200) (o := .cells #[.slice A1_0 l1_0.length c1_0, .int .i64 a1_1, .int .i64 a1_2, .int .i64 a1_3, .int .i64 a1_4] 24 (0, 0)) (by (with_reducible repeat (first | refine blk_drewN ?_ _ | refine blk_drew ?_ | refine blk_alloc ?_ _)); exact BK200.out) hb); have n6_ := Aside0.mk (below_step (by repeat (first | (with_reducible first | exact HB.out | apply below_alloc | apply pw_below_drewN | apply below_drew1 | refine below_set ?_ GE200.out) | exact HB.out)) hb); clear HO204; clear HO207; clear HO214; clear HO217; clear BK200; clear HB; have HO204 := n0_; have HO207 := n1_; have HO214 := n2_; have HO217 := n3_; have HO220 := n4_; have BK200 := n5_; have HB := n6_; clear n0_ n1_ n2_ n3_ n4_ n5_ n6_; (try clear hb); (try clear hb2); (try clear hk); (try clear hi); (try clear ho0)) | ((with_reducible refine gate_dst (N := 8) rfl ?_); refine box_event ?hg (N := 8) ?hd (cs := #[.slice none 0 0, .int .i64 0, .int .i64 0, .int .i64 0, .int .i64 0]) (t := 28) ?hr ?_; (case hd => rfl); (case hg => rfl); (case hr => first | (go_simp; done) | (go_simp; rfl)); intro gb225 hg w39 hbox hb; have n0_ := Aside0.mk (Kd.R_below (by (with_reducible repeat (first | apply Kd.R_alloc | apply Kd.R_drewN | apply Kd.R_drew)); exact HO204.out) hb); have n1_ := Aside0.mk (Kd.R_below (by (with_reducible repeat (first | apply Kd.R_alloc | apply Kd.R_drewN | apply Kd.R_drew)); exact HO207.out) hb); have n2_ := Aside0.mk (Kd.R_below (by (with_reducible repeat (first | apply Kd.R_alloc | apply Kd.R_drewN | apply Kd.R_drew)); exact HO214.out) hb); have n3_ := Aside0.mk (Kd.R_below (by (with_reducible repeat (first | apply Kd.R_alloc | apply Kd.R_drewN | apply Kd.R_drew)); exact HO217.out) hb); have n4_ := Aside0.mk (Kd.R_below (by (with_reducible repeat (first | apply Kd.R_alloc | apply Kd.R_drewN | apply Kd.R_drew)); exact HO220.out) hb); have n5_ := Aside0.mk (blk_below (g := gb200) (o := .cells #[.slice A1_0 l1_0.length c1_0, .int .i64 a1_1, .int .i64 a1_2, .int .i64 a1_3, .int .i64 a1_4] 24 (0, 0)) (by (with_reducible repeat (first | refine blk_drewN ?_ _ | refine blk_drew ?_ | refine blk_alloc ?_ _)); exact BK200.out) hb); have n6_ := Aside0.mk (below_step (by repeat (first | (with_reducible first | exact HB.out | apply below_alloc | apply pw_below_drewN | apply below_drew1 | refine below_set ?_ GE200.out) | exact HB.out)) hb); have n7_ := Aside0.mk (hbox); have n8_ := Aside0.mk ((by rw [hg]; exact (below_size (by repeat (first | (with_reducible first | exact HB.out | apply below_alloc | apply pw_below_drewN | apply below_drew1 | refine below_set ?_ GE200.out) | exact HB.out))) : w.heap.size ≤ gb225)); have n9_ := Aside0.mk ((by rw [hg]; exact (below_size (by repeat (first | (with_reducible first | exact HB.out | apply below_alloc | apply pw_below_drewN | apply below_drew1 | refine below_set ?_ GE200.out) | exact HB.out))) : w.heap.size ≤ gb225)); have n10_ := Aside0.mk ((by rw [hg]; exact Nat.ne_of_lt (blk_lt (g := gb200) (o := .cells #[.slice A1_0 l1_0.length c1_0, .int .i64 a1_1, .int .i64 a1_2, .int .i64 a1_3, .int .i64 a1_4] 24 (0, 0)) (by (with_reducible repeat (first | refine blk_drewN ?_ _ | refine blk_drew ?_ | refine blk_alloc ?_ _)); exact BK200.out)) : gb200 ≠ gb225)); have n11_ := Aside0.mk ((by rw [hg]; exact Nat.ne_of_gt (blk_lt (g := gb200) (o := .cells #[.slice A1_0 l1_0.length c1_0, .int .i64 a1_1, .int .i64 a1_2, .int .i64 a1_3, .int .i64 a1_4] 24 (0, 0)) (by (with_reducible repeat (first | refine blk_drewN ?_ _ | refine blk_drew ?_ | refine blk_alloc ?_ _)); exact BK200.out)) : gb225 ≠ gb200)); clear HO204; clear HO207; clear HO214; clear HO217; clear HO220; clear BK200; clear HB; have HO204 := n0_; have HO207 := n1_; have HO214 := n2_; have HO217 := n3_; have HO220 := n4_; have BK200 := n5_; have HB := n6_; have BK225 := n7_; have GW225 := n8_; have GE225 := n9_; have NB200_225 := n10_; have NB225_200 := n11_; clear n0_ n1_ n2_ n3_ n4_ n5_ n6_ n7_ n8_ n9_ n10_ n11_; clear hb hbox hg; obtain ⟨Ao40, co40, eo40⟩ := Kd.R_slice HO220.out; subst eo40; have hnb41 := NB225_200.out; have hnc41 := NB200_225.out; have hcz42_0 : w39.cell? ⟨gb225, 0, none⟩ = some (.slice none 0 0) := (blk_cell BK225.out 0).trans rfl; have hcz42_1 : w39.cell? ⟨gb225, 1, none⟩ = some (.int .i64 0) := (blk_cell BK225.out 1).trans rfl; have hcz42_2 : w39.cell? ⟨gb225, 2, none⟩ = some (.int .i64 0) := (blk_cell BK225.out 2).trans rfl; have hcz42_3 : w39.cell? ⟨gb225, 3, none⟩ = some (.int .i64 0) := (blk_cell BK225.out 3).trans rfl; have hcz42_4 : w39.cell? ⟨gb225, 4, none⟩ = some (.int .i64 0) := (blk_cell BK225.out 4).trans rfl; have hfz42_0 := blk_frozen BK225.out 0; have hfz42_1 := blk_frozen BK225.out 1; have hfz42_2 := blk_frozen BK225.out 2; have hfz42_3 := blk_frozen BK225.out 3; have hfz42_4 := blk_frozen BK225.out 4; obtain ⟨Ao43, co43, eo43⟩ := Kd.R_slice HO217.out; subst eo43) | ((with_reducible refine gate_callee (f := 19) rfl ?_); refine goesL_ (some 33) rfl rfl Try.func19 (by kernel_rfl) rfl #[.slice Ao43 t215.length co43, .agg #[.slice Ao40 t218.length co40, .int .i64 t221, .int .i64 t222, .int .i64 t223, .int .i64 t224]] rfl (by (try simp only [List.map_toArray, List.map_cons, List.map_nil]); first | done | rfl | (simp only [List.length_drop, List.length_take]; rfl)) ?_; (with_reducible refine (impl_FirstOf.calls k _ _ t215 _ _ t218 t221 t222 t223 t224 t226 _ ?side1 ?side2 ?side3 ?side4 A15.out).mono ?_); (case side1 => refine (Kd.R_reads' (e := 3) (base := w.heap.size) (ok := fun k_ => ((((True ∧ some k_ ≠ (.slice Ao33 t202.length co33 : Value).ownBlock) ∧ some k_ ≠ (.slice Ao34 t205.length co34 : Value).ownBlock) ∧ some k_ ≠ (v213 : Value).ownBlock) ∧ some k_ ≠ (.slice Ao40 t218.length co40 : Value).ownBlock)) (n := t215.length) (c := co43) ?_).2.2; exact (by (with_reducible repeat (first | apply Kd.R_alloc | apply Kd.R_drewN | apply Kd.R_drew)); exact (Kd.R_mono (Kd.R_far (p := ⟨gb225, 4, none⟩) (Kd.R_far (p := ⟨gb225, 3, none⟩) (Kd.R_far (p := ⟨gb225, 2, none⟩) (Kd.R_far (p := ⟨gb225, 1, none⟩) (Kd.R_far (p := ⟨gb225, 0, none⟩) (Kd.R_types HO217.out BK225.out (by decide)) (fun _ hk => hk.2) (.slice Ao40 t218.length co40)) (fun _ hk => hk.2) (.int .i64 t221)) (fun _ hk => hk.2) (.int .i64 t222)) (fun _ hk => hk.2) (.int .i64 t223)) (fun _ hk => hk.2) (.int .i64 t224)) (fun _ h_ => h_.1)))); (case side2 => exact (Kd.R_reads' HO217.out).2.1); (case side3 => refine (Kd.R_reads' (e := 3) (base := w.heap.size) (ok := fun k_ => ((((True ∧ some k_ ≠ (.slice Ao33 t202.length co33 : Value).ownBlock) ∧ some k_ ≠ (.slice Ao34 t205.length co34 : Value).ownBlock) ∧ some k_ ≠ (v213 : Value).ownBlock) ∧ some k_ ≠ (.slice Ao43 t215.length co43 : Value).ownBlock)) (n := t218.length) (c := co40) ?_).2.2; exact (by (with_reducible repeat (first | apply Kd.R_alloc | apply Kd.R_drewN | apply Kd.R_drew)); exact (Kd.R_mono (Kd.R_far (p := ⟨gb225, 4, none⟩) (Kd.R_far (p := ⟨gb225, 3, none⟩) (Kd.R_far (p := ⟨gb225, 2, none⟩) (Kd.R_far (p := ⟨gb225, 1, none⟩) (Kd.R_far (p := ⟨gb225, 0, none⟩) (Kd.R_types HO220.out BK225.out (by decide)) (fun _ hk => hk.2) (.slice Ao40 t218.length co40)) (fun _ hk => hk.2) (.int .i64 t221)) (fun _ hk => hk.2) (.int .i64 t222)) (fun _ hk => hk.2) (.int .i64 t223)) (fun _ hk => hk.2) (.int .i64 t224)) (fun _ h_ => h_.1)))); (case side4 => exact (Kd.R_reads' HO220.out).2.1); rintro e w44 ⟨v227, rfl, ho0, hb⟩; refine ⟨_, rfl, ?_⟩; have n0_ := Aside0.mk (Kd.R_elder' (by (with_reducible repeat (first | apply Kd.R_alloc | apply Kd.R_drewN | apply Kd.R_drew)); exact (Kd.R_mono (Kd.R_far (p := ⟨gb225, 4, none⟩) (Kd.R_far (p := ⟨gb225, 3, none⟩) (Kd.R_far (p := ⟨gb225, 2, none⟩) (Kd.R_far (p := ⟨gb225, 1, none⟩) (Kd.R_far (p := ⟨gb225, 0, none⟩) (Kd.R_types HO204.out BK225.out (by decide)) (fun _ hk => hk.2) (.slice Ao40 t218.length co40)) (fun _ hk => hk.2) (.int .i64 t221)) (fun _ hk => hk.2) (.int .i64 t222)) (fun _ hk => hk.2) (.int .i64 t223)) (fun _ hk => hk.2) (.int .i64 t224)) (fun _ h_ => h_.1))) (Kd.R_base ho0) hb); have n1_ := Aside0.mk (Kd.R_elder' (by (with_reducible repeat (first | apply Kd.R_alloc | apply Kd.R_drewN | apply Kd.R_drew)); exact (Kd.R_mono (Kd.R_far (p := ⟨gb225, 4, none⟩) (Kd.R_far (p := ⟨gb225, 3, none⟩) (Kd.R_far (p := ⟨gb225, 2, none⟩) (Kd.R_far (p := ⟨gb225, 1, none⟩) (Kd.R_far (p := ⟨gb225, 0, none⟩) (Kd.R_types HO207.out BK225.out (by decide)) (fun _ hk => hk.2) (.slice Ao40 t218.length co40)) (fun _ hk => hk.2) (.int .i64 t221)) (fun _ hk => hk.2) (.int .i64 t222)) (fun _ hk => hk.2) (.int .i64 t223)) (fun _ hk => hk.2) (.int .i64 t224)) (fun _ h_ => h_.1))) (Kd.R_base ho0) hb); have n2_ := Aside0.mk (Kd.R_elder' (by (with_reducible repeat (first | apply Kd.R_alloc | apply Kd.R_drewN | apply Kd.R_drew)); exact (Kd.R_mono (Kd.R_far (p := ⟨gb225, 4, none⟩) (Kd.R_far (p := ⟨gb225, 3, none⟩) (Kd.R_far (p := ⟨gb225, 2, none⟩) (Kd.R_far (p := ⟨gb225, 1, none⟩) (Kd.R_far (p := ⟨gb225, 0, none⟩) (Kd.R_types HO214.out BK225.out (by decide)) (fun _ hk => hk.2) (.slice Ao40 t218.length co40)) (fun _ hk => hk.2) (.int .i64 t221)) (fun _ hk => hk.2) (.int .i64 t222)) (fun _ hk => hk.2) (.int .i64 t223)) (fun _ hk => hk.2) (.int .i64 t224)) (fun _ h_ => h_.1))) (Kd.R_base ho0) hb); have n3_ := Aside0.mk (Kd.R_elder' (by (with_reducible repeat (first | apply Kd.R_alloc | apply Kd.R_drewN | apply Kd.R_drew)); exact (Kd.R_mono (Kd.R_far (p := ⟨gb225, 4, none⟩) (Kd.R_far (p := ⟨gb225, 3, none⟩) (Kd.R_far (p := ⟨gb225, 2, none⟩) (Kd.R_far (p := ⟨gb225, 1, none⟩) (Kd.R_far (p := ⟨gb225, 0, none⟩) (Kd.R_types HO217.out BK225.out (by decide)) (fun _ hk => hk.2) (.slice Ao40 t218.length co40)) (fun _ hk => hk.2) (.int .i64 t221)) (fun _ hk => hk.2) (.int .i64 t222)) (fun _ hk => hk.2) (.int .i64 t223)) (fun _ hk => hk.2) (.int .i64 t224)) (fun _ h_ => h_.1))) (Kd.R_base ho0) hb); have n4_ := Aside0.mk (Kd.R_elder' (by (with_reducible repeat (first | apply Kd.R_alloc | apply Kd.R_drewN | apply Kd.R_drew)); exact (Kd.R_mono (Kd.R_far (p := ⟨gb225, 4, none⟩) (Kd.R_far (p := ⟨gb225, 3, none⟩) (Kd.R_far (p := ⟨gb225, 2, none⟩) (Kd.R_far (p := ⟨gb225, 1, none⟩) (Kd.R_far (p := ⟨gb225, 0, none⟩) (Kd.R_types HO220.out BK225.out (by decide)) (fun _ hk => hk.2) (.slice Ao40 t218.length co40)) (fun _ hk => hk.2) (.int .i64 t221)) (fun _ hk => hk.2) (.int .i64 t222)) (fun _ hk => hk.2) (.int .i64 t223)) (fun _ hk => hk.2) (.int .i64 t224)) (fun _ h_ => h_.1))) (Kd.R_base ho0) hb); have n5_ := Aside0.mk (Kd.R_lower (Kd.R_new' (Kd.R_new' (Kd.R_new' (Kd.R_new' (Kd.R_new' ho0 (Kd.R_lt (by (with_reducible repeat (first | apply Kd.R_alloc | apply Kd.R_drewN | apply Kd.R_drew)); exact (Kd.R_mono (Kd.R_far (p := ⟨gb225, 4, none⟩) (Kd.R_far (p := ⟨gb225, 3, none⟩) (Kd.R_far (p := ⟨gb225, 2, none⟩) (Kd.R_far (p := ⟨gb225, 1, none⟩) (Kd.R_far (p := ⟨gb225, 0, none⟩) (Kd.R_types HO204.out BK225.out (by decide)) (fun _ hk => hk.2) (.slice Ao40 t218.length co40)) (fun _ hk => hk.2) (.int .i64 t221)) (fun _ hk => hk.2) (.int .i64 t222)) (fun _ hk => hk.2) (.int .i64 t223)) (fun _ hk => hk.2) (.int .i64 t224)) (fun _ h_ => h_.1))))) (Kd.R_lt (by (with_reducible repeat (first | apply Kd.R_alloc | apply Kd.R_drewN | apply Kd.R_drew)); exact (Kd.R_mono (Kd.R_far (p := ⟨gb225, 4, none⟩) (Kd.R_far (p := ⟨gb225, 3, none⟩) (Kd.R_far (p := ⟨gb225, 2, none⟩) (Kd.R_far (p := ⟨gb225, 1, none⟩) (Kd.R_far (p := ⟨gb225, 0, none⟩) (Kd.R_types HO207.out BK225.out (by decide)) (fun _ hk => hk.2) (.slice Ao40 t218.length co40)) (fun _ hk => hk.2) (.int .i64 t221)) (fun _ hk => hk.2) (.int .i64 t222)) (fun _ hk => hk.2) (.int .i64 t223)) (fun _ hk => hk.2) (.int .i64 t224)) (fun _ h_ => h_.1))))) (Kd.R_lt (by (with_reducible repeat (first | apply Kd.R_alloc | apply Kd.R_drewN | apply Kd.R_drew)); exact (Kd.R_mono (Kd.R_far (p := ⟨gb225, 4, none⟩) (Kd.R_far (p := ⟨gb225, 3, none⟩) (Kd.R_far (p := ⟨gb225, 2, none⟩) (Kd.R_far (p := ⟨gb225, 1, none⟩) (Kd.R_far (p := ⟨gb225, 0, none⟩) (Kd.R_types HO214.out BK225.out (by decide)) (fun _ hk => hk.2) (.slice Ao40 t218.length co40)) (fun _ hk => hk.2) (.int .i64 t221)) (fun _ hk => hk.2) (.int .i64 t222)) (fun _ hk => hk.2) (.int .i64 t223)) (fun _ hk => hk.2) (.int .i64 t224)) (fun _ h_ => h_.1))))) (Kd.R_lt (by (with_reducible repeat (first | apply Kd.R_alloc | apply Kd.R_drewN | apply Kd.R_drew)); exact (Kd.R_mono (Kd.R_far (p := ⟨gb225, 4, none⟩) (Kd.R_far (p := ⟨gb225, 3, none⟩) (Kd.R_far (p := ⟨gb225, 2, none⟩) (Kd.R_far (p := ⟨gb225, 1, none⟩) (Kd.R_far (p := ⟨gb225, 0, none⟩) (Kd.R_types HO217.out BK225.out (by decide)) (fun _ hk => hk.2) (.slice Ao40 t218.length co40)) (fun _ hk => hk.2) (.int .i64 t221)) (fun _ hk => hk.2) (.int .i64 t222)) (fun _ hk => hk.2) (.int .i64 t223)) (fun _ hk => hk.2) (.int .i64 t224)) (fun _ h_ => h_.1))))) (Kd.R_lt (by (with_reducible repeat (first | apply Kd.R_alloc | apply Kd.R_drewN | apply Kd.R_drew)); exact (Kd.R_mono (Kd.R_far (p := ⟨gb225, 4, none⟩) (Kd.R_far (p := ⟨gb225, 3, none⟩) (Kd.R_far (p := ⟨gb225, 2, none⟩) (Kd.R_far (p := ⟨gb225, 1, none⟩) (Kd.R_far (p := ⟨gb225, 0, none⟩) (Kd.R_types HO220.out BK225.out (by decide)) (fun _ hk => hk.2) (.slice Ao40 t218.length co40)) (fun _ hk => hk.2) (.int .i64 t221)) (fun _ hk => hk.2) (.int .i64 t222)) (fun _ hk => hk.2) (.int .i64 t223)) (fun _ hk => hk.2) (.int .i64 t224)) (fun _ h_ => h_.1))))) (below_size (by repeat (first | (with_reducible first | exact HB.out | apply below_alloc | apply pw_below_drewN | apply below_drew1 | refine below_set ?_ GE200.out | refine below_set ?_ GE225.out) | exact HB.out)))); have n6_ := Aside0.mk (blk_below (g := gb200) (o := .cells #[.slice A1_0 l1_0.length c1_0, .int .i64 a1_1, .int .i64 a1_2, .int .i64 a1_3, .int .i64 a1_4] 24 (0, 0)) (by (with_reducible repeat (first | refine blk_drewN ?_ _ | refine blk_drew ?_ | refine blk_alloc ?_ _)); refine blk_far ?_ NB200_225.out _; (with_reducible repeat (first | refine blk_drewN ?_ _ | refine blk_drew ?_ | refine blk_alloc ?_ _)); refine blk_far ?_ NB200_225.out _; (with_reducible repeat (first | refine blk_drewN ?_ _ | refine blk_drew ?_ | refine blk_alloc ?_ _)); refine blk_far ?_ NB200_225.out _; (with_reducible repeat (first | refine blk_drewN ?_ _ | refine blk_drew ?_ | refine blk_alloc ?_ _)); refine blk_far ?_ NB200_225.out _; (with_reducible repeat (first | refine blk_drewN ?_ _ | refine blk_drew ?_ | refine blk_alloc ?_ _)); refine blk_far ?_ NB200_225.out _; (with_reducible repeat (first | refine blk_drewN ?_ _ | refine blk_drew ?_ | refine blk_alloc ?_ _)); exact BK200.out) hb); have n7_ := Aside0.mk (blk_below (g := gb225) (o := .cells #[.slice Ao40 t218.length co40, .int .i64 t221, .int .i64 t222, .int .i64 t223, .int .i64 t224] 28 (0, 0)) (by (with_reducible repeat (first | refine blk_drewN ?_ _ | refine blk_drew ?_ | refine blk_alloc ?_ _)); refine blk_put (cs := #[.slice Ao40 t218.length co40, .int .i64 t221, .int .i64 t222, .int .i64 t223, .int .i64 0]) ?_ 4 _ rfl; (with_reducible repeat (first | refine blk_drewN ?_ _ | refine blk_drew ?_ | refine blk_alloc ?_ _)); refine blk_put (cs := #[.slice Ao40 t218.length co40, .int .i64 t221, .int .i64 t222, .int .i64 0, .int .i64 0]) ?_ 3 _ rfl; (with_reducible repeat (first | refine blk_drewN ?_ _ | refine blk_drew ?_ | refine blk_alloc ?_ _)); refine blk_put (cs := #[.slice Ao40 t218.length co40, .int .i64 t221, .int .i64 0, .int .i64 0, .int .i64 0]) ?_ 2 _ rfl; (with_reducible repeat (first | refine blk_drewN ?_ _ | refine blk_drew ?_ | refine blk_alloc ?_ _)); refine blk_put (cs := #[.slice Ao40 t218.length co40, .int .i64 0, .int .i64 0, .int .i64 0, .int .i64 0]) ?_ 1 _ rfl; (with_reducible repeat (first | refine blk_drewN ?_ _ | refine blk_drew ?_ | refine blk_alloc ?_ _)); refine blk_put (cs := #[.slice none 0 0, .int .i64 0, .int .i64 0, .int .i64 0, .int .i64 0]) ?_ 0 _ rfl; (with_reducible repeat (first | refine blk_drewN ?_ _ | refine blk_drew ?_ | refine blk_alloc ?_ _)); exact BK225.out) hb); have n8_ := Aside0.mk (below_step (by repeat (first | (with_reducible first | exact HB.out | apply below_alloc | apply pw_below_drewN | apply below_drew1 | refine below_set ?_ GE200.out | refine below_set ?_ GE225.out) | exact HB.out)) hb); clear HO204; clear HO207; clear HO214; clear HO217; clear HO220; clear BK200; clear BK225; clear HB; have HO204 := n0_; have HO207 := n1_; have HO214 := n2_; have HO217 := n3_; have HO220 := n4_; have HO228 := n5_; have BK200 := n6_; have BK225 := n7_; have HB := n8_; clear n0_ n1_ n2_ n3_ n4_ n5_ n6_ n7_ n8_; (try clear hb); (try clear hb2); (try clear hk); (try clear hi); (try clear ho0); obtain ⟨Ao45, co45, eo45⟩ := Kd.R_slice HO228.out; subst eo45; obtain ⟨Ao46, co46, eo46⟩ := Kd.R_slice HO214.out; subst eo46) | ((with_reducible refine gate_callee (f := 20) rfl ?_); refine goesL_ (some 36) rfl rfl Try.func20 (by kernel_rfl) rfl #[.slice Ao45 t226.length co45, .slice Ao46 t212.length co46] rfl (by (try simp only [List.map_toArray, List.map_cons, List.map_nil]); first | done | rfl | (simp only [List.length_drop, List.length_take]; rfl)) ?_; (with_reducible refine (laws_eqIntS.calls k _ _ t226 _ _ t212 true _ ?side1 ?side2 ?side3 ?side4 A16.out).mono ?_); (case side1 => repeat (first | exact (Kd.R_reads' HO228.out).2.2 | (with_reducible refine Kd.C_alloc ?_ _) | (with_reducible refine Kd.C_drewN ?_ _) | (with_reducible refine Kd.C_drew ?_))); (case side2 => exact (Kd.R_reads' HO228.out).2.1); (case side3 => repeat (first | exact (Kd.R_reads' HO214.out).2.2 | (with_reducible refine Kd.C_alloc ?_ _) | (with_reducible refine Kd.C_drewN ?_ _) | (with_reducible refine Kd.C_drew ?_))); (case side4 => exact (Kd.R_reads' HO214.out).2.1); rintro e w' ⟨rfl, ⟨nd, rfl⟩⟩; refine ⟨_, rfl, ?_⟩) | ((with_reducible refine gate_callee (f := 17) rfl ?_); refine goesL_ (some 40) rfl rfl Try.func17 (by kernel_rfl) rfl #[.slice A0 l0.length c0] rfl (by (try simp only [List.map_toArray, List.map_cons, List.map_nil]); first | done | rfl | (simp only [List.length_drop, List.length_take]; rfl)) ?_; (with_reducible refine (laws_toIntS.calls k _ _ l0 t230 _ ?side1 ?side2 A18.out).mono ?_); (case side1 => repeat (first | exact (Kd.C_below HR0.out (by repeat (first | (with_reducible first | exact HB.out | apply below_alloc | apply pw_below_drewN | apply below_drew1 | refine below_set ?_ GE200.out | refine below_set ?_ GE225.out) | exact HB.out))) | (with_reducible refine Kd.C_alloc ?_ _) | (with_reducible refine Kd.C_drewN ?_ _) | (with_reducible refine Kd.C_drew ?_))); (case side2 => exact HC0.out); rintro e w47 ⟨v231, rfl, ho0, hb⟩; refine ⟨_, rfl, ?_⟩; have n0_ := Aside0.mk (Kd.R_elder' (by (with_reducible repeat (first | apply Kd.R_alloc | apply Kd.R_drewN | apply Kd.R_drew)); exact HO204.out) (Kd.R_base ho0) hb); have n1_ := Aside0.mk (Kd.R_elder' (by (with_reducible repeat (first | apply Kd.R_alloc | apply Kd.R_drewN | apply Kd.R_drew)); exact HO207.out) (Kd.R_base ho0) hb); have n2_ := Aside0.mk (Kd.R_elder' (by (with_reducible repeat (first | apply Kd.R_alloc | apply Kd.R_drewN | apply Kd.R_drew)); exact HO214.out) (Kd.R_base ho0) hb); have n3_ := Aside0.mk (Kd.R_elder' (by (with_reducible repeat (first | apply Kd.R_alloc | apply Kd.R_drewN | apply Kd.R_drew)); exact HO217.out) (Kd.R_base ho0) hb); have n4_ := Aside0.mk (Kd.R_elder' (by (with_reducible repeat (first | apply Kd.R_alloc | apply Kd.R_drewN | apply Kd.R_drew)); exact HO220.out) (Kd.R_base ho0) hb); have n5_ := Aside0.mk (Kd.R_elder' (by (with_reducible repeat (first | apply Kd.R_alloc | apply Kd.R_drewN | apply Kd.R_drew)); exact HO228.out) (Kd.R_base ho0) hb); have n6_ := Aside0.mk (Kd.R_lower (Kd.R_new' (Kd.R_new' (Kd.R_new' (Kd.R_new' (Kd.R_new' (Kd.R_new' ho0 (Kd.R_lt (by (with_reducible repeat (first | apply Kd.R_alloc | apply Kd.R_drewN | apply Kd.R_drew)); exact HO204.out))) (Kd.R_lt (by (with_reducible repeat (first | apply Kd.R_alloc | apply Kd.R_drewN | apply Kd.R_drew)); exact HO207.out))) (Kd.R_lt (by (with_reducible repeat (first | apply Kd.R_alloc | apply Kd.R_drewN | apply Kd.R_drew)); exact HO214.out))) (Kd.R_lt (by (with_reducible repeat (first | apply Kd.R_alloc | apply Kd.R_drewN | apply Kd.R_drew)); exact HO217.out))) (Kd.R_lt (by (with_reducible repeat (first | apply Kd.R_alloc | apply Kd.R_drewN | apply Kd.R_drew)); exact HO220.out))) (Kd.R_lt (by (with_reducible repeat (first | apply Kd.R_alloc | apply Kd.R_drewN | apply Kd.R_drew)); exact HO228.out))) (below_size (by repeat (first | (with_reducible first | exact HB.out | apply below_alloc | apply pw_below_drewN | apply below_drew1 | refine below_set ?_ GE200.out | refine below_set ?_ GE225.out) | exact HB.out)))); have n7_ := Aside0.mk (blk_below (g := gb200) (o := .cells #[.slice A1_0 l1_0.length c1_0, .int .i64 a1_1, .int .i64 a1_2, .int .i64 a1_3, .int .i64 a1_4] 24 (0, 0)) (by (with_reducible repeat (first | refine blk_drewN ?_ _ | refine blk_drew ?_ | refine blk_alloc ?_ _)); exact BK200.out) hb); have n8_ := Aside0.mk (blk_below (g := gb225) (o := .cells #[.slice Ao40 t218.length co40, .int .i64 t221, .int .i64 t222, .int .i64 t223, .int .i64 t224] 28 (0, 0)) (by (with_reducible repeat (first | refine blk_drewN ?_ _ | refine blk_drew ?_ | refine blk_alloc ?_ _)); exact BK225.out) hb); have n9_ := Aside0.mk (below_step (by repeat (first | (with_reducible first | exact HB.out | apply below_alloc | apply pw_below_drewN | apply below_drew1 | refine below_set ?_ GE200.out | refine below_set ?_ GE225.out) | exact HB.out)) hb); clear HO204; clear HO207; clear HO214; clear HO217; clear HO220; clear HO228; clear BK200; clear BK225; clear HB; have HO204 := n0_; have HO207 := n1_; have HO214 := n2_; have HO217 := n3_; have HO220 := n4_; have HO228 := n5_; have HO232 := n6_; have BK200 := n7_; have BK225 := n8_; have HB := n9_; clear n0_ n1_ n2_ n3_ n4_ n5_ n6_ n7_ n8_ n9_; (try clear hb); (try clear hb2); (try clear hk); (try clear hi); (try clear ho0); obtain ⟨Ao48, co48, eo48⟩ := Kd.R_slice HO232.out; subst eo48) | ((with_reducible refine gate_callee (f := 20) rfl ?_); refine goesL_ (some 41) rfl rfl Try.func20 (by kernel_rfl) rfl #[.slice Ao43 t215.length co43, .slice Ao48 t230.length co48] rfl (by (try simp only [List.map_toArray, List.map_cons, List.map_nil]); first | done | rfl | (simp only [List.length_drop, List.length_take]; rfl)) ?_; (with_reducible refine (laws_eqIntS.calls k _ _ t215 _ _ t230 true _ ?side1 ?side2 ?side3 ?side4 A19.out).mono ?_); (case side1 => repeat (first | exact (Kd.R_reads' HO217.out).2.2 | (with_reducible refine Kd.C_alloc ?_ _) | (with_reducible refine Kd.C_drewN ?_ _) | (with_reducible refine Kd.C_drew ?_))); (case side2 => exact (Kd.R_reads' HO217.out).2.1); (case side3 => repeat (first | exact (Kd.R_reads' HO232.out).2.2 | (with_reducible refine Kd.C_alloc ?_ _) | (with_reducible refine Kd.C_drewN ?_ _) | (with_reducible refine Kd.C_drew ?_))); (case side4 => exact (Kd.R_reads' HO232.out).2.1); rintro e w' ⟨rfl, ⟨nd, rfl⟩⟩; refine ⟨_, rfl, ?_⟩))
            (try (rw [drewN_self w47]; generalize hq_ : World.drewN w47 _ = w47; have n0_ : Aside0 (Kd.R (Kd.int .i64) 3 w47 w.heap.size (fun k_ => some k_ ≠ (.slice Ao34 t205.length co34 : Value).ownBlock ∧ some k_ ≠ (.slice Ao46 t212.length co46 : Value).ownBlock ∧ some k_ ≠ (.slice Ao43 t215.length co43 : Value).ownBlock ∧ some k_ ≠ (.slice Ao40 t218.length co40 : Value).ownBlock ∧ some k_ ≠ (.slice Ao45 t226.length co45 : Value).ownBlock ∧ some k_ ≠ (.slice Ao48 t230.length co48 : Value).ownBlock) (.slice Ao33 t202.length co33) t202) := ⟨by rw [← hq_]; exact (by (with_reducible repeat (first | apply Kd.R_alloc | apply Kd.R_drewN | apply Kd.R_drew)); exact Kd.R_mono HO204.out (fun _ hk => by simp only [ne_eq, hk, not_false_eq_true, and_self]))⟩; have n1_ : Aside0 (Kd.R (Kd.int .i64) 3 w47 w.heap.size (fun k_ => some k_ ≠ (.slice Ao33 t202.length co33 : Value).ownBlock ∧ some k_ ≠ (.slice Ao46 t212.length co46 : Value).ownBlock ∧ some k_ ≠ (.slice Ao43 t215.length co43 : Value).ownBlock ∧ some k_ ≠ (.slice Ao40 t218.length co40 : Value).ownBlock ∧ some k_ ≠ (.slice Ao45 t226.length co45 : Value).ownBlock ∧ some k_ ≠ (.slice Ao48 t230.length co48 : Value).ownBlock) (.slice Ao34 t205.length co34) t205) := ⟨by rw [← hq_]; exact (by (with_reducible repeat (first | apply Kd.R_alloc | apply Kd.R_drewN | apply Kd.R_drew)); exact Kd.R_mono HO207.out (fun _ hk => by simp only [ne_eq, hk, not_false_eq_true, and_self]))⟩; have n2_ : Aside0 (Kd.R (Kd.int .i64) 3 w47 w.heap.size (fun k_ => some k_ ≠ (.slice Ao33 t202.length co33 : Value).ownBlock ∧ some k_ ≠ (.slice Ao34 t205.length co34 : Value).ownBlock ∧ some k_ ≠ (.slice Ao43 t215.length co43 : Value).ownBlock ∧ some k_ ≠ (.slice Ao40 t218.length co40 : Value).ownBlock ∧ some k_ ≠ (.slice Ao45 t226.length co45 : Value).ownBlock ∧ some k_ ≠ (.slice Ao48 t230.length co48 : Value).ownBlock) (.slice Ao46 t212.length co46) t212) := ⟨by rw [← hq_]; exact (by (with_reducible repeat (first | apply Kd.R_alloc | apply Kd.R_drewN | apply Kd.R_drew)); exact Kd.R_mono HO214.out (fun _ hk => by simp only [ne_eq, hk, not_false_eq_true, and_self]))⟩; have n3_ : Aside0 (Kd.R (Kd.int .i64) 3 w47 w.heap.size (fun k_ => some k_ ≠ (.slice Ao33 t202.length co33 : Value).ownBlock ∧ some k_ ≠ (.slice Ao34 t205.length co34 : Value).ownBlock ∧ some k_ ≠ (.slice Ao46 t212.length co46 : Value).ownBlock ∧ some k_ ≠ (.slice Ao40 t218.length co40 : Value).ownBlock ∧ some k_ ≠ (.slice Ao45 t226.length co45 : Value).ownBlock ∧ some k_ ≠ (.slice Ao48 t230.length co48 : Value).ownBlock) (.slice Ao43 t215.length co43) t215) := ⟨by rw [← hq_]; exact (by (with_reducible repeat (first | apply Kd.R_alloc | apply Kd.R_drewN | apply Kd.R_drew)); exact Kd.R_mono HO217.out (fun _ hk => by simp only [ne_eq, hk, not_false_eq_true, and_self]))⟩; have n4_ : Aside0 (Kd.R (Kd.int .i64) 3 w47 w.heap.size (fun k_ => some k_ ≠ (.slice Ao33 t202.length co33 : Value).ownBlock ∧ some k_ ≠ (.slice Ao34 t205.length co34 : Value).ownBlock ∧ some k_ ≠ (.slice Ao46 t212.length co46 : Value).ownBlock ∧ some k_ ≠ (.slice Ao43 t215.length co43 : Value).ownBlock ∧ some k_ ≠ (.slice Ao45 t226.length co45 : Value).ownBlock ∧ some k_ ≠ (.slice Ao48 t230.length co48 : Value).ownBlock) (.slice Ao40 t218.length co40) t218) := ⟨by rw [← hq_]; exact (by (with_reducible repeat (first | apply Kd.R_alloc | apply Kd.R_drewN | apply Kd.R_drew)); exact Kd.R_mono HO220.out (fun _ hk => by simp only [ne_eq, hk, not_false_eq_true, and_self]))⟩; have n5_ : Aside0 (Kd.R (Kd.int .i64) 3 w47 w.heap.size (fun k_ => some k_ ≠ (.slice Ao33 t202.length co33 : Value).ownBlock ∧ some k_ ≠ (.slice Ao34 t205.length co34 : Value).ownBlock ∧ some k_ ≠ (.slice Ao46 t212.length co46 : Value).ownBlock ∧ some k_ ≠ (.slice Ao43 t215.length co43 : Value).ownBlock ∧ some k_ ≠ (.slice Ao40 t218.length co40 : Value).ownBlock ∧ some k_ ≠ (.slice Ao48 t230.length co48 : Value).ownBlock) (.slice Ao45 t226.length co45) t226) := ⟨by rw [← hq_]; exact (by (with_reducible repeat (first | apply Kd.R_alloc | apply Kd.R_drewN | apply Kd.R_drew)); exact Kd.R_mono HO228.out (fun _ hk => by simp only [ne_eq, hk, not_false_eq_true, and_self]))⟩; have n6_ : Aside0 (Kd.R (Kd.int .i64) 3 w47 w.heap.size (fun k_ => some k_ ≠ (.slice Ao33 t202.length co33 : Value).ownBlock ∧ some k_ ≠ (.slice Ao34 t205.length co34 : Value).ownBlock ∧ some k_ ≠ (.slice Ao46 t212.length co46 : Value).ownBlock ∧ some k_ ≠ (.slice Ao43 t215.length co43 : Value).ownBlock ∧ some k_ ≠ (.slice Ao40 t218.length co40 : Value).ownBlock ∧ some k_ ≠ (.slice Ao45 t226.length co45 : Value).ownBlock) (.slice Ao48 t230.length co48) t230) := ⟨by rw [← hq_]; exact (by (with_reducible repeat (first | apply Kd.R_alloc | apply Kd.R_drewN | apply Kd.R_drew)); exact Kd.R_mono HO232.out (fun _ hk => by simp only [ne_eq, hk, not_false_eq_true, and_self]))⟩; have n7_ : Aside0 (w47.heap[gb200]? = some (.cells #[.slice A1_0 l1_0.length c1_0, .int .i64 a1_1, .int .i64 a1_2, .int .i64 a1_3, .int .i64 a1_4] 24 (0, 0))) := ⟨by rw [← hq_]; exact (by (with_reducible repeat (first | refine blk_drewN ?_ _ | refine blk_drew ?_ | refine blk_alloc ?_ _)); exact BK200.out)⟩; have n8_ : Aside0 (w47.heap[gb225]? = some (.cells #[.slice Ao40 t218.length co40, .int .i64 t221, .int .i64 t222, .int .i64 t223, .int .i64 t224] 28 (0, 0))) := ⟨by rw [← hq_]; exact (by (with_reducible repeat (first | refine blk_drewN ?_ _ | refine blk_drew ?_ | refine blk_alloc ?_ _)); exact BK225.out)⟩; have n9_ : Aside0 (Below w.heap.size w w47) := ⟨by rw [← hq_]; exact (by repeat (first | (with_reducible first | exact HB.out | apply below_alloc | apply pw_below_drewN | apply below_drew1 | refine below_set ?_ GE200.out | refine below_set ?_ GE225.out) | exact HB.out))⟩; clear HO204 HO207 HO214 HO217 HO220 HO228 HO232 BK200 BK225 HB hq_; have HO204 := n0_; have HO207 := n1_; have HO214 := n2_; have HO217 := n3_; have HO220 := n4_; have HO228 := n5_; have HO232 := n6_; have BK200 := n7_; have BK225 := n8_; have HB := n9_; clear n0_ n1_ n2_ n3_ n4_ n5_ n6_ n7_ n8_ n9_))
            have n0_ := Aside0.mk (Kd.R_drew HO204.out)
            have n1_ := Aside0.mk (Kd.R_drew HO207.out)
            have n2_ := Aside0.mk (Kd.R_drew HO214.out)
            have n3_ := Aside0.mk (Kd.R_drew HO217.out)
            have n4_ := Aside0.mk (Kd.R_drew HO220.out)
            have n5_ := Aside0.mk (Kd.R_drew HO228.out)
            have n6_ := Aside0.mk (Kd.R_drew HO232.out)
            have n7_ := Aside0.mk (blk_drew BK200.out)
            have n8_ := Aside0.mk (blk_drew BK225.out)
            have n9_ := Aside0.mk (below_drew1 HB.out)
            clear HO204
            clear HO207
            clear HO214
            clear HO217
            clear HO220
            clear HO228
            clear HO232
            clear BK200
            clear BK225
            clear HB
            have HO204 := n0_
            have HO207 := n1_
            have HO214 := n2_
            have HO217 := n3_
            have HO220 := n4_
            have HO228 := n5_
            have HO232 := n6_
            have BK200 := n7_
            have BK225 := n8_
            have HB := n9_
            clear n0_ n1_ n2_ n3_ n4_ n5_ n6_ n7_ n8_ n9_
            refine start_ (n := 5) (S := fun w' => w'.cell? ⟨gb225, 0, none⟩ = some (.slice Ao40 t218.length co40) ∧ w'.cell? ⟨gb225, 1, none⟩ = some (.int .i64 t221) ∧ w'.cell? ⟨gb225, 2, none⟩ = some (.int .i64 t222) ∧ w'.cell? ⟨gb225, 3, none⟩ = some (.int .i64 t223) ∧ w'.cell? ⟨gb225, 4, none⟩ = some (.int .i64 t224) ∧ w'.cell? ⟨gb200, 0, none⟩ = some (.slice A1_0 l1_0.length c1_0) ∧ w'.cell? ⟨gb200, 1, none⟩ = some (.int .i64 a1_1) ∧ w'.cell? ⟨gb200, 2, none⟩ = some (.int .i64 a1_2) ∧ w'.cell? ⟨gb200, 3, none⟩ = some (.int .i64 a1_3) ∧ w'.cell? ⟨gb200, 4, none⟩ = some (.int .i64 a1_4)) (ds := []) #[false, false, false, false, false] (by kernel_rfl) rfl rfl ⟨(blk_cell BK225.out 0).trans rfl, (blk_cell BK225.out 1).trans rfl, (blk_cell BK225.out 2).trans rfl, (blk_cell BK225.out 3).trans rfl, (blk_cell BK225.out 4).trans rfl, (blk_cell BK200.out 0).trans rfl, (blk_cell BK200.out 1).trans rfl, (blk_cell BK200.out 2).trans rfl, (blk_cell BK200.out 3).trans rfl, (blk_cell BK200.out 4).trans rfl⟩ (fun hHeld => ?_)
            generalize w47.drew = w49 at HO204 HO207 HO214 HO217 HO220 HO228 HO232 BK200 BK225 HB hHeld ⊢
            refine take_ (i := 0) (N := some 43) (v := ?_) (a' := ?_) #[true, false, false, false, false] rfl rfl (by kernel_rfl) (fun _ _ _ h => h) (Or.inl ⟨by rfl, ?_⟩) hHeld ?_ ?_
            rotate_left
            · rintro w' ⟨s0, s1, s2, s3, s4, s5, s6, s7, s8, s9⟩
              go_simp
              with_reducible rfl
            rotate_left
            · simp only [Act.put, List.setIfInBounds_toArray, List.set_cons_zero, List.set_cons_succ, i64_w, i32_w]
              rfl
            refine take_ (i := 1) (N := some 44) (v := ?_) (a' := ?_) #[true, true, false, false, false] rfl rfl (by kernel_rfl) (fun _ _ _ h => h) (Or.inl ⟨by rfl, ?_⟩) hHeld ?_ ?_
            rotate_left
            · rintro w' ⟨s0, s1, s2, s3, s4, s5, s6, s7, s8, s9⟩
              go_simp
              with_reducible rfl
            rotate_left
            · simp only [Act.put, List.setIfInBounds_toArray, List.set_cons_zero, List.set_cons_succ, i64_w, i32_w]
              rfl
            refine one_ (i := 2) (N := some 45) #[true, true, true, false, false] rfl rfl (by kernel_rfl) (by decide) (fun K hK => ?_)
            refine goes_ Try.func18 (by kernel_rfl) rfl #[.agg #[.slice A1_0 l1_0.length c1_0, .int .i64 a1_1, .int .i64 a1_2, .int .i64 a1_3, .int .i64 a1_4]] (by rfl) rfl rfl (by (try simp only [List.map_toArray, List.map_cons, List.map_nil]); first | done | rfl | (simp only [List.length_drop, List.length_take]; rfl)) ?_
            with_reducible refine (laws_toScan.calls k _ _ l1_0 a1_1 a1_2 a1_3 a1_4 t234 t237 t238 t239 t240 _ ?side1 ?side2 A21.out).mono ?_
            (case side1 => repeat (first | exact (Kd.C_below HR1_0.out HB.out) | (with_reducible refine Kd.C_alloc ?_ _) | (with_reducible refine Kd.C_drewN ?_ _) | (with_reducible refine Kd.C_drew ?_)))
            (case side2 => exact HC1_0.out)
            rintro e w50 ⟨v235, rfl, ho0, hb⟩
            refine ⟨_, rfl, ?_⟩
            have n0_ := Aside0.mk (Kd.R_elder' (by (with_reducible repeat (first | apply Kd.R_alloc | apply Kd.R_drewN | apply Kd.R_drew)); exact HO204.out) (Kd.R_base ho0) hb)
            have n1_ := Aside0.mk (Kd.R_elder' (by (with_reducible repeat (first | apply Kd.R_alloc | apply Kd.R_drewN | apply Kd.R_drew)); exact HO207.out) (Kd.R_base ho0) hb)
            have n2_ := Aside0.mk (Kd.R_elder' (by (with_reducible repeat (first | apply Kd.R_alloc | apply Kd.R_drewN | apply Kd.R_drew)); exact HO214.out) (Kd.R_base ho0) hb)
            have n3_ := Aside0.mk (Kd.R_elder' (by (with_reducible repeat (first | apply Kd.R_alloc | apply Kd.R_drewN | apply Kd.R_drew)); exact HO217.out) (Kd.R_base ho0) hb)
            have n4_ := Aside0.mk (Kd.R_elder' (by (with_reducible repeat (first | apply Kd.R_alloc | apply Kd.R_drewN | apply Kd.R_drew)); exact HO220.out) (Kd.R_base ho0) hb)
            have n5_ := Aside0.mk (Kd.R_elder' (by (with_reducible repeat (first | apply Kd.R_alloc | apply Kd.R_drewN | apply Kd.R_drew)); exact HO228.out) (Kd.R_base ho0) hb)
            have n6_ := Aside0.mk (Kd.R_elder' (by (with_reducible repeat (first | apply Kd.R_alloc | apply Kd.R_drewN | apply Kd.R_drew)); exact HO232.out) (Kd.R_base ho0) hb)
            have n7_ := Aside0.mk (Kd.R_lower (Kd.R_new' (Kd.R_new' (Kd.R_new' (Kd.R_new' (Kd.R_new' (Kd.R_new' (Kd.R_new' ho0 (Kd.R_lt (by (with_reducible repeat (first | apply Kd.R_alloc | apply Kd.R_drewN | apply Kd.R_drew)); exact HO204.out))) (Kd.R_lt (by (with_reducible repeat (first | apply Kd.R_alloc | apply Kd.R_drewN | apply Kd.R_drew)); exact HO207.out))) (Kd.R_lt (by (with_reducible repeat (first | apply Kd.R_alloc | apply Kd.R_drewN | apply Kd.R_drew)); exact HO214.out))) (Kd.R_lt (by (with_reducible repeat (first | apply Kd.R_alloc | apply Kd.R_drewN | apply Kd.R_drew)); exact HO217.out))) (Kd.R_lt (by (with_reducible repeat (first | apply Kd.R_alloc | apply Kd.R_drewN | apply Kd.R_drew)); exact HO220.out))) (Kd.R_lt (by (with_reducible repeat (first | apply Kd.R_alloc | apply Kd.R_drewN | apply Kd.R_drew)); exact HO228.out))) (Kd.R_lt (by (with_reducible repeat (first | apply Kd.R_alloc | apply Kd.R_drewN | apply Kd.R_drew)); exact HO232.out))) (below_size (by repeat (first | (with_reducible first | exact HB.out | apply below_alloc | apply pw_below_drewN | apply below_drew1 | refine below_set ?_ GE200.out | refine below_set ?_ GE225.out) | exact HB.out))))
            have n8_ := Aside0.mk (blk_below (g := gb200) (o := .cells #[.slice A1_0 l1_0.length c1_0, .int .i64 a1_1, .int .i64 a1_2, .int .i64 a1_3, .int .i64 a1_4] 24 (0, 0)) (by (with_reducible repeat (first | refine blk_drewN ?_ _ | refine blk_drew ?_ | refine blk_alloc ?_ _)); exact BK200.out) hb)
            have n9_ := Aside0.mk (blk_below (g := gb225) (o := .cells #[.slice Ao40 t218.length co40, .int .i64 t221, .int .i64 t222, .int .i64 t223, .int .i64 t224] 28 (0, 0)) (by (with_reducible repeat (first | refine blk_drewN ?_ _ | refine blk_drew ?_ | refine blk_alloc ?_ _)); exact BK225.out) hb)
            have n10_ := Aside0.mk (below_step (by repeat (first | (with_reducible first | exact HB.out | apply below_alloc | apply pw_below_drewN | apply below_drew1 | refine below_set ?_ GE200.out | refine below_set ?_ GE225.out) | exact HB.out)) hb)
            clear HO204
            clear HO207
            clear HO214
            clear HO217
            clear HO220
            clear HO228
            clear HO232
            clear BK200
            clear BK225
            clear HB
            have HO204 := n0_
            have HO207 := n1_
            have HO214 := n2_
            have HO217 := n3_
            have HO220 := n4_
            have HO228 := n5_
            have HO232 := n6_
            have HO236 := n7_
            have BK200 := n8_
            have BK225 := n9_
            have HB := n10_
            clear n0_ n1_ n2_ n3_ n4_ n5_ n6_ n7_ n8_ n9_ n10_
            (try clear hb)
            (try clear hb2)
            (try clear hk)
            (try clear hi)
            (try clear ho0)
            obtain ⟨Ao51, co51, eo51⟩ := Kd.R_slice HO236.out
            (first | subst eo51 | (injection eo51 with f1_ f2_ f3_; have f4_ := f1_.symm; have f5_ := f3_.symm; clear f1_ f2_ f3_; subst f4_; subst f5_))
            refine hK.out _ _ ⟨(blk_cell BK225.out 0).trans rfl, (blk_cell BK225.out 1).trans rfl, (blk_cell BK225.out 2).trans rfl, (blk_cell BK225.out 3).trans rfl, (blk_cell BK225.out 4).trans rfl, (blk_cell BK200.out 0).trans rfl, (blk_cell BK200.out 1).trans rfl, (blk_cell BK200.out 2).trans rfl, (blk_cell BK200.out 3).trans rfl, (blk_cell BK200.out 4).trans rfl⟩ (fun hHeld => ?_)
            clear hK K
            refine norm_ (a' := ?_) ?_ ?_
            rotate_left
            · show Act.put _ (some 45) _ = _
              simp only [Act.put, List.setIfInBounds_toArray, List.set_cons_zero, List.set_cons_succ, i64_w, i32_w]
              rfl
            refine one_ (i := 3) (N := some 46) #[true, true, true, true, false] rfl rfl (by kernel_rfl) (by decide) (fun K hK => ?_)
            refine goes_ Try.func21 (by kernel_rfl) rfl #[.agg #[.slice Ao40 t218.length co40, .int .i64 t221, .int .i64 t222, .int .i64 t223, .int .i64 t224], .agg #[.slice Ao51 t234.length co51, .int .i64 t237, .int .i64 t238, .int .i64 t239, .int .i64 t240]] (by rfl) rfl rfl (by (try simp only [List.map_toArray, List.map_cons, List.map_nil]); first | done | rfl | (simp only [List.length_drop, List.length_take]; rfl)) ?_
            with_reducible refine (laws_eqScan.calls k _ _ t218 t221 t222 t223 t224 _ _ t234 t237 t238 t239 t240 true _ ?side1 ?side2 ?side3 ?side4 A22.out).mono ?_
            (case side1 => repeat (first | exact (Kd.R_reads' HO220.out).2.2 | (with_reducible refine Kd.C_alloc ?_ _) | (with_reducible refine Kd.C_drewN ?_ _) | (with_reducible refine Kd.C_drew ?_)))
            (case side2 => exact (Kd.R_reads' HO220.out).2.1)
            (case side3 => repeat (first | exact (Kd.R_reads' HO236.out).2.2 | (with_reducible refine Kd.C_alloc ?_ _) | (with_reducible refine Kd.C_drewN ?_ _) | (with_reducible refine Kd.C_drew ?_)))
            (case side4 => exact (Kd.R_reads' HO236.out).2.1)
            rintro e w52 ⟨rfl, hb⟩
            refine ⟨_, rfl, ?_⟩
            have n0_ := Aside0.mk (Kd.R_below (by (with_reducible repeat (first | apply Kd.R_alloc | apply Kd.R_drewN | apply Kd.R_drew)); exact HO204.out) hb)
            have n1_ := Aside0.mk (Kd.R_below (by (with_reducible repeat (first | apply Kd.R_alloc | apply Kd.R_drewN | apply Kd.R_drew)); exact HO207.out) hb)
            have n2_ := Aside0.mk (Kd.R_below (by (with_reducible repeat (first | apply Kd.R_alloc | apply Kd.R_drewN | apply Kd.R_drew)); exact HO214.out) hb)
            have n3_ := Aside0.mk (Kd.R_below (by (with_reducible repeat (first | apply Kd.R_alloc | apply Kd.R_drewN | apply Kd.R_drew)); exact HO217.out) hb)
            have n4_ := Aside0.mk (Kd.R_below (by (with_reducible repeat (first | apply Kd.R_alloc | apply Kd.R_drewN | apply Kd.R_drew)); exact HO220.out) hb)
            have n5_ := Aside0.mk (Kd.R_below (by (with_reducible repeat (first | apply Kd.R_alloc | apply Kd.R_drewN | apply Kd.R_drew)); exact HO228.out) hb)
            have n6_ := Aside0.mk (Kd.R_below (by (with_reducible repeat (first | apply Kd.R_alloc | apply Kd.R_drewN | apply Kd.R_drew)); exact HO232.out) hb)
            have n7_ := Aside0.mk (Kd.R_below (by (with_reducible repeat (first | apply Kd.R_alloc | apply Kd.R_drewN | apply Kd.R_drew)); exact HO236.out) hb)
            have n8_ := Aside0.mk (blk_below (g := gb200) (o := .cells #[.slice A1_0 l1_0.length c1_0, .int .i64 a1_1, .int .i64 a1_2, .int .i64 a1_3, .int .i64 a1_4] 24 (0, 0)) (by (with_reducible repeat (first | refine blk_drewN ?_ _ | refine blk_drew ?_ | refine blk_alloc ?_ _)); exact BK200.out) hb)
            have n9_ := Aside0.mk (blk_below (g := gb225) (o := .cells #[.slice Ao40 t218.length co40, .int .i64 t221, .int .i64 t222, .int .i64 t223, .int .i64 t224] 28 (0, 0)) (by (with_reducible repeat (first | refine blk_drewN ?_ _ | refine blk_drew ?_ | refine blk_alloc ?_ _)); exact BK225.out) hb)
            have n10_ := Aside0.mk (below_step (by repeat (first | (with_reducible first | exact HB.out | apply below_alloc | apply pw_below_drewN | apply below_drew1 | refine below_set ?_ GE200.out | refine below_set ?_ GE225.out) | exact HB.out)) hb)
            clear HO204
            clear HO207
            clear HO214
            clear HO217
            clear HO220
            clear HO228
            clear HO232
            clear HO236
            clear BK200
            clear BK225
            clear HB
            have HO204 := n0_
            have HO207 := n1_
            have HO214 := n2_
            have HO217 := n3_
            have HO220 := n4_
            have HO228 := n5_
            have HO232 := n6_
            have HO236 := n7_
            have BK200 := n8_
            have BK225 := n9_
            have HB := n10_
            clear n0_ n1_ n2_ n3_ n4_ n5_ n6_ n7_ n8_ n9_ n10_
            (try clear hb)
            (try clear hb2)
            (try clear hk)
            (try clear hi)
            refine hK.out _ _ ⟨(blk_cell BK225.out 0).trans rfl, (blk_cell BK225.out 1).trans rfl, (blk_cell BK225.out 2).trans rfl, (blk_cell BK225.out 3).trans rfl, (blk_cell BK225.out 4).trans rfl, (blk_cell BK200.out 0).trans rfl, (blk_cell BK200.out 1).trans rfl, (blk_cell BK200.out 2).trans rfl, (blk_cell BK200.out 3).trans rfl, (blk_cell BK200.out 4).trans rfl⟩ (fun hHeld => ?_)
            clear hK K
            refine norm_ (a' := ?_) ?_ ?_
            rotate_left
            · show Act.put _ (some 46) _ = _
              simp only [Act.put, List.setIfInBounds_toArray, List.set_cons_zero, List.set_cons_succ, i64_w, i32_w]
              rfl
            refine pure_ (i := 4) (N := some 47) (v := ?_) (a' := ?_) #[true, true, true, true, true] rfl rfl (by kernel_rfl) (fun _ _ _ h => h) (Or.inl ⟨by rfl, ?_⟩) ?_ ?_
            rotate_left
            · intro w'
              go_simp
              with_reducible rfl
            rotate_left
            · simp only [Act.put, List.setIfInBounds_toArray, List.set_cons_zero, List.set_cons_succ, i64_w, i32_w]
              rfl
            refine done_ (by kernel_rfl) ?_
            go_upto_region 20 with (first | ((with_reducible refine gate_callee (f := 22) rfl ?_); refine goesL_ (some 50) rfl rfl Try.func22 (by kernel_rfl) rfl #[.slice Ao43 t215.length co43, .int .i64 1] rfl (by (try simp only [List.map_toArray, List.map_cons, List.map_nil]); first | done | rfl | (simp only [List.length_drop, List.length_take]; rfl)) ?_; (with_reducible refine (laws_markIntS.calls k (fun k_ => some k_ = (.slice Ao43 t215.length co43 : Value).ownBlock) (.slice Ao43 t215.length co43) t215 1 t242 t243 w _ ?side1 ?side2 A24.out).mono ?_); (case side1 => repeat (first | (with_reducible first | exact HB.out | apply below_alloc | apply pw_below_drewN | apply below_drew1 | refine below_set ?_ GE200.out | refine below_set ?_ GE225.out) | exact HB.out)); (case side2 => exact Kd.R_tight rfl HO217.out); rintro e w53 ⟨rfl, hy0, hb, hkp⟩; refine ⟨_, rfl, ?_⟩; have n0_ := Aside0.mk (blk_kept (by (with_reducible repeat (first | refine blk_drewN ?_ _ | refine blk_drew ?_ | refine blk_alloc ?_ _)); exact BK200.out) hkp (fun hs_ => (fun e_ => (Kd.R_ne HO217.out BK200.out (by decide)) e_) hs_)); have n1_ := Aside0.mk (Kd.R_mono (ok' := fun k_ => some k_ ≠ (.slice Ao34 t205.length co34 : Value).ownBlock ∧ some k_ ≠ (.slice Ao46 t212.length co46 : Value).ownBlock ∧ some k_ ≠ (.slice Ao43 t215.length co43 : Value).ownBlock ∧ some k_ ≠ (.slice Ao40 t218.length co40 : Value).ownBlock ∧ some k_ ≠ (.slice Ao45 t226.length co45 : Value).ownBlock ∧ some k_ ≠ (.slice Ao48 t230.length co48 : Value).ownBlock ∧ some k_ ≠ (.slice Ao51 t234.length co51 : Value).ownBlock) (Kd.R_keptB (HO204.out) hkp (fun k_ hk_ hs_ => by simp only [ne_eq, hs_, not_true_eq_false, and_false, false_and] at hk_)) (fun k_ hk_ => by simp only [ne_eq, hk_, not_false_eq_true, and_self])); have n2_ := Aside0.mk (Kd.R_mono (ok' := fun k_ => some k_ ≠ (.slice Ao33 t202.length co33 : Value).ownBlock ∧ some k_ ≠ (.slice Ao46 t212.length co46 : Value).ownBlock ∧ some k_ ≠ (.slice Ao43 t215.length co43 : Value).ownBlock ∧ some k_ ≠ (.slice Ao40 t218.length co40 : Value).ownBlock ∧ some k_ ≠ (.slice Ao45 t226.length co45 : Value).ownBlock ∧ some k_ ≠ (.slice Ao48 t230.length co48 : Value).ownBlock ∧ some k_ ≠ (.slice Ao51 t234.length co51 : Value).ownBlock) (Kd.R_keptB (HO207.out) hkp (fun k_ hk_ hs_ => by simp only [ne_eq, hs_, not_true_eq_false, and_false, false_and] at hk_)) (fun k_ hk_ => by simp only [ne_eq, hk_, not_false_eq_true, and_self])); have n3_ := Aside0.mk (Kd.R_mono (ok' := fun k_ => some k_ ≠ (.slice Ao33 t202.length co33 : Value).ownBlock ∧ some k_ ≠ (.slice Ao34 t205.length co34 : Value).ownBlock ∧ some k_ ≠ (.slice Ao43 t215.length co43 : Value).ownBlock ∧ some k_ ≠ (.slice Ao40 t218.length co40 : Value).ownBlock ∧ some k_ ≠ (.slice Ao45 t226.length co45 : Value).ownBlock ∧ some k_ ≠ (.slice Ao48 t230.length co48 : Value).ownBlock ∧ some k_ ≠ (.slice Ao51 t234.length co51 : Value).ownBlock) (Kd.R_keptB (HO214.out) hkp (fun k_ hk_ hs_ => by simp only [ne_eq, hs_, not_true_eq_false, and_false, false_and] at hk_)) (fun k_ hk_ => by simp only [ne_eq, hk_, not_false_eq_true, and_self])); have n4_ := Aside0.mk (Kd.R_reok rfl hy0 (fun k_ e_ => HO217.out.1 k_ e_)); have n5_ := Aside0.mk (Kd.R_mono (ok' := fun k_ => some k_ ≠ (.slice Ao33 t202.length co33 : Value).ownBlock ∧ some k_ ≠ (.slice Ao34 t205.length co34 : Value).ownBlock ∧ some k_ ≠ (.slice Ao46 t212.length co46 : Value).ownBlock ∧ some k_ ≠ (.slice Ao43 t215.length co43 : Value).ownBlock ∧ some k_ ≠ (.slice Ao45 t226.length co45 : Value).ownBlock ∧ some k_ ≠ (.slice Ao48 t230.length co48 : Value).ownBlock ∧ some k_ ≠ (.slice Ao51 t234.length co51 : Value).ownBlock) (Kd.R_keptB (HO220.out) hkp (fun k_ hk_ hs_ => by simp only [ne_eq, hs_, not_true_eq_false, and_false, false_and] at hk_)) (fun k_ hk_ => by simp only [ne_eq, hk_, not_false_eq_true, and_self])); have n6_ := Aside0.mk (blk_kept (by (with_reducible repeat (first | refine blk_drewN ?_ _ | refine blk_drew ?_ | refine blk_alloc ?_ _)); exact BK225.out) hkp (fun hs_ => (fun e_ => (Kd.R_ne HO217.out BK225.out (by decide)) e_) hs_)); have n7_ := Aside0.mk (Kd.R_mono (ok' := fun k_ => some k_ ≠ (.slice Ao33 t202.length co33 : Value).ownBlock ∧ some k_ ≠ (.slice Ao34 t205.length co34 : Value).ownBlock ∧ some k_ ≠ (.slice Ao46 t212.length co46 : Value).ownBlock ∧ some k_ ≠ (.slice Ao43 t215.length co43 : Value).ownBlock ∧ some k_ ≠ (.slice Ao40 t218.length co40 : Value).ownBlock ∧ some k_ ≠ (.slice Ao48 t230.length co48 : Value).ownBlock ∧ some k_ ≠ (.slice Ao51 t234.length co51 : Value).ownBlock) (Kd.R_keptB (HO228.out) hkp (fun k_ hk_ hs_ => by simp only [ne_eq, hs_, not_true_eq_false, and_false, false_and] at hk_)) (fun k_ hk_ => by simp only [ne_eq, hk_, not_false_eq_true, and_self])); have n8_ := Aside0.mk (Kd.R_mono (ok' := fun k_ => some k_ ≠ (.slice Ao33 t202.length co33 : Value).ownBlock ∧ some k_ ≠ (.slice Ao34 t205.length co34 : Value).ownBlock ∧ some k_ ≠ (.slice Ao46 t212.length co46 : Value).ownBlock ∧ some k_ ≠ (.slice Ao43 t215.length co43 : Value).ownBlock ∧ some k_ ≠ (.slice Ao40 t218.length co40 : Value).ownBlock ∧ some k_ ≠ (.slice Ao45 t226.length co45 : Value).ownBlock ∧ some k_ ≠ (.slice Ao51 t234.length co51 : Value).ownBlock) (Kd.R_keptB (HO232.out) hkp (fun k_ hk_ hs_ => by simp only [ne_eq, hs_, not_true_eq_false, and_false, false_and] at hk_)) (fun k_ hk_ => by simp only [ne_eq, hk_, not_false_eq_true, and_self])); have n9_ := Aside0.mk (Kd.R_mono (ok' := fun k_ => some k_ ≠ (.slice Ao33 t202.length co33 : Value).ownBlock ∧ some k_ ≠ (.slice Ao34 t205.length co34 : Value).ownBlock ∧ some k_ ≠ (.slice Ao46 t212.length co46 : Value).ownBlock ∧ some k_ ≠ (.slice Ao43 t215.length co43 : Value).ownBlock ∧ some k_ ≠ (.slice Ao40 t218.length co40 : Value).ownBlock ∧ some k_ ≠ (.slice Ao45 t226.length co45 : Value).ownBlock ∧ some k_ ≠ (.slice Ao48 t230.length co48 : Value).ownBlock) (Kd.R_keptB (HO236.out) hkp (fun k_ hk_ hs_ => by simp only [ne_eq, hs_, not_true_eq_false, and_false, false_and] at hk_)) (fun k_ hk_ => by simp only [ne_eq, hk_, not_false_eq_true, and_self])); have n10_ := Aside0.mk (hb); clear BK200; clear HO204; clear HO207; clear HO214; clear HO217; clear HO220; clear BK225; clear HO228; clear HO232; clear HO236; clear HB; have BK200 := n0_; have HO204 := n1_; have HO207 := n2_; have HO214 := n3_; have HO217 := n4_; have HO220 := n5_; have BK225 := n6_; have HO228 := n7_; have HO232 := n8_; have HO236 := n9_; have HB := n10_; clear n0_ n1_ n2_ n3_ n4_ n5_ n6_ n7_ n8_ n9_ n10_; (try clear hb); (try clear hkp); (try clear hy0); have hcz54_0 : w53.cell? ⟨gb225, 0, none⟩ = some (.slice Ao40 t218.length co40) := (blk_cell BK225.out 0).trans rfl; have hcz54_1 : w53.cell? ⟨gb225, 1, none⟩ = some (.int .i64 t221) := (blk_cell BK225.out 1).trans rfl; have hcz54_2 : w53.cell? ⟨gb225, 2, none⟩ = some (.int .i64 t222) := (blk_cell BK225.out 2).trans rfl; have hcz54_3 : w53.cell? ⟨gb225, 3, none⟩ = some (.int .i64 t223) := (blk_cell BK225.out 3).trans rfl; have hcz54_4 : w53.cell? ⟨gb225, 4, none⟩ = some (.int .i64 t224) := (blk_cell BK225.out 4).trans rfl; have hfz54_0 := blk_frozen BK225.out 0; have hfz54_1 := blk_frozen BK225.out 1; have hfz54_2 := blk_frozen BK225.out 2; have hfz54_3 := blk_frozen BK225.out 3; have hfz54_4 := blk_frozen BK225.out 4) | ((with_reducible refine gate_callee (f := 23) rfl ?_); refine goesL_ (some 53) rfl rfl Try.func23 (by kernel_rfl) rfl #[.agg #[.slice Ao40 t218.length co40, .int .i64 t221, .int .i64 t222, .int .i64 t223, .int .i64 t224], .int .i64 t242] rfl (by (try simp only [List.map_toArray, List.map_cons, List.map_nil]); first | done | rfl | (simp only [List.length_drop, List.length_take]; rfl)) ?_; (with_reducible refine (laws_markScan.calls k (fun k_ => some k_ = (.slice Ao40 t218.length co40 : Value).ownBlock) (.slice Ao40 t218.length co40) t218 t221 t222 t223 t224 t242 t244 t245 w _ ?side1 ?side2 A25.out).mono ?_); (case side1 => repeat (first | (with_reducible first | exact HB.out | apply below_alloc | apply pw_below_drewN | apply below_drew1 | refine below_set ?_ GE200.out | refine below_set ?_ GE225.out) | exact HB.out)); (case side2 => exact Kd.R_tight rfl HO220.out); rintro e w55 ⟨rfl, hy0, hb, hkp⟩; refine ⟨_, rfl, ?_⟩; have n0_ := Aside0.mk (blk_kept (by (with_reducible repeat (first | refine blk_drewN ?_ _ | refine blk_drew ?_ | refine blk_alloc ?_ _)); exact BK200.out) hkp (fun hs_ => (fun e_ => (Kd.R_ne HO220.out BK200.out (by decide)) e_) hs_)); have n1_ := Aside0.mk (Kd.R_mono (ok' := fun k_ => some k_ ≠ (.slice Ao34 t205.length co34 : Value).ownBlock ∧ some k_ ≠ (.slice Ao46 t212.length co46 : Value).ownBlock ∧ some k_ ≠ (.slice Ao43 t215.length co43 : Value).ownBlock ∧ some k_ ≠ (.slice Ao40 t218.length co40 : Value).ownBlock ∧ some k_ ≠ (.slice Ao45 t226.length co45 : Value).ownBlock ∧ some k_ ≠ (.slice Ao48 t230.length co48 : Value).ownBlock ∧ some k_ ≠ (.slice Ao51 t234.length co51 : Value).ownBlock) (Kd.R_keptB (HO204.out) hkp (fun k_ hk_ hs_ => by simp only [ne_eq, hs_, not_true_eq_false, and_false, false_and] at hk_)) (fun k_ hk_ => by simp only [ne_eq, hk_, not_false_eq_true, and_self])); have n2_ := Aside0.mk (Kd.R_mono (ok' := fun k_ => some k_ ≠ (.slice Ao33 t202.length co33 : Value).ownBlock ∧ some k_ ≠ (.slice Ao46 t212.length co46 : Value).ownBlock ∧ some k_ ≠ (.slice Ao43 t215.length co43 : Value).ownBlock ∧ some k_ ≠ (.slice Ao40 t218.length co40 : Value).ownBlock ∧ some k_ ≠ (.slice Ao45 t226.length co45 : Value).ownBlock ∧ some k_ ≠ (.slice Ao48 t230.length co48 : Value).ownBlock ∧ some k_ ≠ (.slice Ao51 t234.length co51 : Value).ownBlock) (Kd.R_keptB (HO207.out) hkp (fun k_ hk_ hs_ => by simp only [ne_eq, hs_, not_true_eq_false, and_false, false_and] at hk_)) (fun k_ hk_ => by simp only [ne_eq, hk_, not_false_eq_true, and_self])); have n3_ := Aside0.mk (Kd.R_mono (ok' := fun k_ => some k_ ≠ (.slice Ao33 t202.length co33 : Value).ownBlock ∧ some k_ ≠ (.slice Ao34 t205.length co34 : Value).ownBlock ∧ some k_ ≠ (.slice Ao43 t215.length co43 : Value).ownBlock ∧ some k_ ≠ (.slice Ao40 t218.length co40 : Value).ownBlock ∧ some k_ ≠ (.slice Ao45 t226.length co45 : Value).ownBlock ∧ some k_ ≠ (.slice Ao48 t230.length co48 : Value).ownBlock ∧ some k_ ≠ (.slice Ao51 t234.length co51 : Value).ownBlock) (Kd.R_keptB (HO214.out) hkp (fun k_ hk_ hs_ => by simp only [ne_eq, hs_, not_true_eq_false, and_false, false_and] at hk_)) (fun k_ hk_ => by simp only [ne_eq, hk_, not_false_eq_true, and_self])); have n4_ := Aside0.mk (Kd.R_mono (ok' := fun k_ => some k_ ≠ (.slice Ao33 t202.length co33 : Value).ownBlock ∧ some k_ ≠ (.slice Ao34 t205.length co34 : Value).ownBlock ∧ some k_ ≠ (.slice Ao46 t212.length co46 : Value).ownBlock ∧ some k_ ≠ (.slice Ao40 t218.length co40 : Value).ownBlock ∧ some k_ ≠ (.slice Ao45 t226.length co45 : Value).ownBlock ∧ some k_ ≠ (.slice Ao48 t230.length co48 : Value).ownBlock ∧ some k_ ≠ (.slice Ao51 t234.length co51 : Value).ownBlock) (Kd.R_keptB (HO217.out) hkp (fun k_ hk_ hs_ => by simp only [ne_eq, hs_, not_true_eq_false, and_false, false_and] at hk_)) (fun k_ hk_ => by simp only [ne_eq, hk_, not_false_eq_true, and_self])); have n5_ := Aside0.mk (Kd.R_reok rfl hy0 (fun k_ e_ => HO220.out.1 k_ e_)); have n6_ := Aside0.mk (blk_kept (by (with_reducible repeat (first | refine blk_drewN ?_ _ | refine blk_drew ?_ | refine blk_alloc ?_ _)); exact BK225.out) hkp (fun hs_ => (fun e_ => (Kd.R_ne HO220.out BK225.out (by decide)) e_) hs_)); have n7_ := Aside0.mk (Kd.R_mono (ok' := fun k_ => some k_ ≠ (.slice Ao33 t202.length co33 : Value).ownBlock ∧ some k_ ≠ (.slice Ao34 t205.length co34 : Value).ownBlock ∧ some k_ ≠ (.slice Ao46 t212.length co46 : Value).ownBlock ∧ some k_ ≠ (.slice Ao43 t215.length co43 : Value).ownBlock ∧ some k_ ≠ (.slice Ao40 t218.length co40 : Value).ownBlock ∧ some k_ ≠ (.slice Ao48 t230.length co48 : Value).ownBlock ∧ some k_ ≠ (.slice Ao51 t234.length co51 : Value).ownBlock) (Kd.R_keptB (HO228.out) hkp (fun k_ hk_ hs_ => by simp only [ne_eq, hs_, not_true_eq_false, and_false, false_and] at hk_)) (fun k_ hk_ => by simp only [ne_eq, hk_, not_false_eq_true, and_self])); have n8_ := Aside0.mk (Kd.R_mono (ok' := fun k_ => some k_ ≠ (.slice Ao33 t202.length co33 : Value).ownBlock ∧ some k_ ≠ (.slice Ao34 t205.length co34 : Value).ownBlock ∧ some k_ ≠ (.slice Ao46 t212.length co46 : Value).ownBlock ∧ some k_ ≠ (.slice Ao43 t215.length co43 : Value).ownBlock ∧ some k_ ≠ (.slice Ao40 t218.length co40 : Value).ownBlock ∧ some k_ ≠ (.slice Ao45 t226.length co45 : Value).ownBlock ∧ some k_ ≠ (.slice Ao51 t234.length co51 : Value).ownBlock) (Kd.R_keptB (HO232.out) hkp (fun k_ hk_ hs_ => by simp only [ne_eq, hs_, not_true_eq_false, and_false, false_and] at hk_)) (fun k_ hk_ => by simp only [ne_eq, hk_, not_false_eq_true, and_self])); have n9_ := Aside0.mk (Kd.R_mono (ok' := fun k_ => some k_ ≠ (.slice Ao33 t202.length co33 : Value).ownBlock ∧ some k_ ≠ (.slice Ao34 t205.length co34 : Value).ownBlock ∧ some k_ ≠ (.slice Ao46 t212.length co46 : Value).ownBlock ∧ some k_ ≠ (.slice Ao43 t215.length co43 : Value).ownBlock ∧ some k_ ≠ (.slice Ao40 t218.length co40 : Value).ownBlock ∧ some k_ ≠ (.slice Ao45 t226.length co45 : Value).ownBlock ∧ some k_ ≠ (.slice Ao48 t230.length co48 : Value).ownBlock) (Kd.R_keptB (HO236.out) hkp (fun k_ hk_ hs_ => by simp only [ne_eq, hs_, not_true_eq_false, and_false, false_and] at hk_)) (fun k_ hk_ => by simp only [ne_eq, hk_, not_false_eq_true, and_self])); have n10_ := Aside0.mk (hb); clear BK200; clear HO204; clear HO207; clear HO214; clear HO217; clear HO220; clear BK225; clear HO228; clear HO232; clear HO236; clear HB; have BK200 := n0_; have HO204 := n1_; have HO207 := n2_; have HO214 := n3_; have HO217 := n4_; have HO220 := n5_; have BK225 := n6_; have HO228 := n7_; have HO232 := n8_; have HO236 := n9_; have HB := n10_; clear n0_ n1_ n2_ n3_ n4_ n5_ n6_ n7_ n8_ n9_ n10_; (try clear hb); (try clear hkp); (try clear hy0)))
            (try simp only [Act.put, List.setIfInBounds_toArray, List.set_cons_zero, List.set_cons_succ])
            go_cut [61] (fun v61 wc => ∃ (kq : Nat) (x61_25 : Bool), v61 = .bool x61_25 ∧ Aside0 (laws_FnExactFirstOf.j0 kq l0 t212 t226 x61_25 l1_0 a1_1 a1_2 a1_3 a1_4 = some r) ∧ Aside0 (kq ≤ k) ∧ Aside0 (Kd.R (Kd.int .i64) 3 wc w.heap.size (fun k_ => some k_ ≠ ((.slice Ao45 t226.length co45) : Value).ownBlock ∧ some k_ ≠ ((.slice Ao40 t218.length co40) : Value).ownBlock) (.slice Ao46 t212.length co46) t212) ∧ Aside0 (Kd.R (Kd.int .i64) 3 wc w.heap.size (fun k_ => some k_ ≠ ((.slice Ao46 t212.length co46) : Value).ownBlock ∧ some k_ ≠ ((.slice Ao40 t218.length co40) : Value).ownBlock) (.slice Ao45 t226.length co45) t226) ∧ Aside0 (Kd.R (Kd.int .i64) 3 wc w.heap.size (fun k_ => some k_ ≠ ((.slice Ao46 t212.length co46) : Value).ownBlock ∧ some k_ ≠ ((.slice Ao45 t226.length co45) : Value).ownBlock) (.slice Ao40 t218.length co40) t245) ∧ Aside0 (wc.heap[gb200]? = some (.cells #[(.slice A1_0 l1_0.length c1_0), .int .i64 a1_1, .int .i64 a1_2, .int .i64 a1_3, .int .i64 a1_4] 24 (0, 0))) ∧ Aside0 (wc.heap[gb225]? = some (.cells #[(.slice Ao40 t218.length co40), .int .i64 t221, .int .i64 t222, .int .i64 t223, .int .i64 t224] 28 (0, 0))) ∧ Aside0 (Below w.heap.size w wc))
            case first =>
              have H := HC26.out
              clear HC26
              by_cases c56 : t244 < 0
              · rw [if_pos c56] at H
                have c56b0 : decide (t244 < 0) = true := decide_eq_true c56
                clear c56
                (first | rw [c56b0] | (simp only [i64_w, i32_w]; rw [c56b0]) | skip)
                have H' := Aside0.mk H
                clear H
                go_wp2
                go_meet
                case rel => exact ⟨_, (true), (by first | rfl | (simp; done) | (simp [*]; done)), H', ⟨by first | omega | exact Nat.le_refl _⟩, ⟨by (with_reducible repeat (first | apply Kd.R_alloc | apply Kd.R_drewN | apply Kd.R_drew)); exact Kd.R_mono HO214.out (fun _ hk => by simp only [ne_eq, hk, not_false_eq_true, and_self])⟩, ⟨by (with_reducible repeat (first | apply Kd.R_alloc | apply Kd.R_drewN | apply Kd.R_drew)); exact Kd.R_mono HO228.out (fun _ hk => by simp only [ne_eq, hk, not_false_eq_true, and_self])⟩, ⟨by (with_reducible repeat (first | apply Kd.R_alloc | apply Kd.R_drewN | apply Kd.R_drew)); exact Kd.R_mono HO220.out (fun _ hk => by simp only [ne_eq, hk, not_false_eq_true, and_self])⟩, ⟨by (with_reducible repeat (first | refine blk_drewN ?_ _ | refine blk_drew ?_ | refine blk_alloc ?_ _)); exact BK200.out⟩, ⟨by (with_reducible repeat (first | refine blk_drewN ?_ _ | refine blk_drew ?_ | refine blk_alloc ?_ _)); exact BK225.out⟩, ⟨by repeat (first | (with_reducible first | exact HB.out | apply below_alloc | apply pw_below_drewN | apply below_drew1 | refine below_set ?_ GE200.out | refine below_set ?_ GE225.out) | exact HB.out)⟩⟩
              · rw [if_neg c56] at H
                have c56b0 : decide (t244 < 0) = false := decide_eq_false c56
                clear c56
                (first | rw [c56b0] | (simp only [i64_w, i32_w]; rw [c56b0]) | skip)
                replace H := Option.bind_eq_some_iff.mp H
                obtain ⟨t246, A570, H⟩ := H
                replace H : (laws_FnExactFirstOf.j0 k l0 t212 t226 (!t246) l1_0 a1_1 a1_2 a1_3 a1_4) = some r := H
                have A57 := Aside0.mk A570
                clear A570
                have H' := Aside0.mk H
                clear H
                go_wp2_with (first | (go_at_call 20; (with_reducible refine (laws_eqIntS.calls k _ _ t226 _ _ t212 t246 _ ?side1 ?side2 ?side3 ?side4 A57.out).mono ?_); (case side1 => repeat (first | exact (Kd.R_reads' HO228.out).2.2 | (with_reducible refine Kd.C_alloc ?_ _) | (with_reducible refine Kd.C_drewN ?_ _) | (with_reducible refine Kd.C_drew ?_))); (case side2 => exact (Kd.R_reads' HO228.out).2.1); (case side3 => repeat (first | exact (Kd.R_reads' HO214.out).2.2 | (with_reducible refine Kd.C_alloc ?_ _) | (with_reducible refine Kd.C_drewN ?_ _) | (with_reducible refine Kd.C_drew ?_))); (case side4 => exact (Kd.R_reads' HO214.out).2.1); rintro e w' ⟨rfl, ⟨nd, rfl⟩⟩))
                go_meet
                case rel => exact ⟨_, (!t246), (by first | rfl | (simp; done) | (simp [*]; done)), H', ⟨by first | omega | exact Nat.le_refl _⟩, ⟨by (with_reducible repeat (first | apply Kd.R_alloc | apply Kd.R_drewN | apply Kd.R_drew)); exact Kd.R_mono HO214.out (fun _ hk => by simp only [ne_eq, hk, not_false_eq_true, and_self])⟩, ⟨by (with_reducible repeat (first | apply Kd.R_alloc | apply Kd.R_drewN | apply Kd.R_drew)); exact Kd.R_mono HO228.out (fun _ hk => by simp only [ne_eq, hk, not_false_eq_true, and_self])⟩, ⟨by (with_reducible repeat (first | apply Kd.R_alloc | apply Kd.R_drewN | apply Kd.R_drew)); exact Kd.R_mono HO220.out (fun _ hk => by simp only [ne_eq, hk, not_false_eq_true, and_self])⟩, ⟨by (with_reducible repeat (first | refine blk_drewN ?_ _ | refine blk_drew ?_ | refine blk_alloc ?_ _)); exact BK200.out⟩, ⟨by (with_reducible repeat (first | refine blk_drewN ?_ _ | refine blk_drew ?_ | refine blk_alloc ?_ _)); exact BK225.out⟩, ⟨by repeat (first | (with_reducible first | exact HB.out | apply below_alloc | apply pw_below_drewN | apply below_drew1 | refine below_set ?_ GE200.out | refine below_set ?_ GE225.out) | exact HB.out)⟩⟩
            case rest =>
              clear HC26
              try clear c1
              try clear c2
              try clear p2
              try clear c3
              try clear c3b0
              try clear c3b1
              try clear c4
              try clear c5
              try clear c6
              try clear c6b0
              try clear c15
              try clear c16
              try clear c17
              try clear c18
              try clear c19
              try clear c20
              try clear c21
              try clear c22
              try clear c23
              try clear c41
              try clear c56
              try clear c56b0
              try clear hcz28_0
              try clear hcz28_1
              try clear hcz28_2
              try clear hcz28_3
              try clear hcz28_4
              try clear hcz37_0
              try clear hcz37_1
              try clear hcz37_2
              try clear hcz37_3
              try clear hcz37_4
              try clear hcz42_0
              try clear hcz42_1
              try clear hcz42_2
              try clear hcz42_3
              try clear hcz42_4
              try clear hcz54_0
              try clear hcz54_1
              try clear hcz54_2
              try clear hcz54_3
              try clear hcz54_4
              try clear hcz8_0
              try clear hcz8_1
              try clear hcz8_2
              try clear hcz8_3
              try clear hcz8_4
              try clear hfz28_0
              try clear hfz28_1
              try clear hfz28_2
              try clear hfz28_3
              try clear hfz28_4
              try clear hfz37_0
              try clear hfz37_1
              try clear hfz37_2
              try clear hfz37_3
              try clear hfz37_4
              try clear hfz42_0
              try clear hfz42_1
              try clear hfz42_2
              try clear hfz42_3
              try clear hfz42_4
              try clear hfz54_0
              try clear hfz54_1
              try clear hfz54_2
              try clear hfz54_3
              try clear hfz54_4
              try clear hfz8_0
              try clear hfz8_1
              try clear hfz8_2
              try clear hfz8_3
              try clear hfz8_4
              obtain ⟨kq, x61_25, rfl, HA, HJ25, HO_6, HO_9, HO_226000, BK200, BK225, HB⟩ := hcut
              have hl226000_25 := (Kd.R_reads' HO_226000.out).1
              rw [hl226000_25] at HO_226000
              (try simp only [hl226000_25])
              (try simp only [hl226000_25] at BK200)
              (try simp only [hl226000_25] at BK225)
              (try simp only [hl226000_25] at HO_6)
              (try simp only [hl226000_25] at HO_9)
              cases kq with
              | zero => exact absurd HA.out (by simp [laws_FnExactFirstOf.j0])
              | succ kj25 =>
                have H := HA.out
                clear HA
                simp only [laws_FnExactFirstOf.j0] at H
                by_cases c58 : x61_25 = true
                · subst c58
                  have H1 : (some false) = some r := by rw [if_pos rfl] at H; exact H
                  clear H
                  have H := H1
                  clear H1
                  exact absurd ((Option.some.inj H).trans HT_.out) (by decide)
                · replace c58 := Bool.eq_false_iff.mpr c58
                  subst c58
                  have H1 : ((laws_markIntS.f kj25 t226 1).bind fun bt247 => ((laws_heldIntS.f kj25 bt247.2 1).bind fun t249 => (if t249 < 0 then (some false) else (if t249 = bt247.1 then ((laws_toIntS.f kj25 l0).bind fun t250 => ((laws_toScan.f kj25 l1_0 a1_1 a1_2 a1_3 a1_4).bind fun bt253 => ((impl_FirstOf.f kj25 t250 bt253.1 bt253.2.1 bt253.2.2.1 bt253.2.2.2.1 bt253.2.2.2.2).bind fun t260 => ((laws_eqIntS.f kj25 t260 t212).bind fun t263 => (if t263 = true then ((laws_heldIntS.f kj25 bt247.2 1).bind fun t264 => (if t264 < 0 then (some false) else (if t264 = bt247.1 then (some true) else (some false)))) else (some false)))))) else (some false))))) = some r := by rw [if_neg (show ¬ (false = true) by decide)] at H; exact H
                  clear H
                  have H := H1
                  clear H1
                  replace H := Option.bind_eq_some_iff.mp H
                  obtain ⟨⟨t247, t248⟩, A590, H⟩ := H
                  replace H : ((laws_heldIntS.f kj25 t248 1).bind fun t249 => (if t249 < 0 then (some false) else (if t249 = t247 then ((laws_toIntS.f kj25 l0).bind fun t250 => ((laws_toScan.f kj25 l1_0 a1_1 a1_2 a1_3 a1_4).bind fun bt253 => ((impl_FirstOf.f kj25 t250 bt253.1 bt253.2.1 bt253.2.2.1 bt253.2.2.2.1 bt253.2.2.2.2).bind fun t260 => ((laws_eqIntS.f kj25 t260 t212).bind fun t263 => (if t263 = true then ((laws_heldIntS.f kj25 t248 1).bind fun t264 => (if t264 < 0 then (some false) else (if t264 = t247 then (some true) else (some false)))) else (some false)))))) else (some false)))) = some r := H
                  have A59 := Aside0.mk A590
                  clear A590
                  replace H := Option.bind_eq_some_iff.mp H
                  obtain ⟨t249, A600, H⟩ := H
                  replace H : (if t249 < 0 then (some false) else (if t249 = t247 then ((laws_toIntS.f kj25 l0).bind fun t250 => ((laws_toScan.f kj25 l1_0 a1_1 a1_2 a1_3 a1_4).bind fun bt253 => ((impl_FirstOf.f kj25 t250 bt253.1 bt253.2.1 bt253.2.2.1 bt253.2.2.2.1 bt253.2.2.2.2).bind fun t260 => ((laws_eqIntS.f kj25 t260 t212).bind fun t263 => (if t263 = true then ((laws_heldIntS.f kj25 t248 1).bind fun t264 => (if t264 < 0 then (some false) else (if t264 = t247 then (some true) else (some false)))) else (some false)))))) else (some false))) = some r := H
                  have A60 := Aside0.mk A600
                  clear A600
                  by_cases c61 : t249 < 0
                  · rw [if_pos c61] at H
                    have c61b0 : decide (t249 < 0) = true := decide_eq_true c61
                    clear c61
                    exact absurd ((Option.some.inj H).trans HT_.out) (by decide)
                  · rw [if_neg c61] at H
                    have c61b0 : decide (t249 < 0) = false := decide_eq_false c61
                    clear c61
                    by_cases c62 : t249 = t247
                    · rw [if_pos c62] at H
                      have c62b0 : (t249 == t247) = true := beq_iff_eq.mpr c62
                      have c62b1 : (t249 != t247) = false := bne_eq_false_iff_eq.mpr c62
                      clear c62
                      replace H := Option.bind_eq_some_iff.mp H
                      obtain ⟨t250, A630, H⟩ := H
                      replace H : ((laws_toScan.f kj25 l1_0 a1_1 a1_2 a1_3 a1_4).bind fun bt253 => ((impl_FirstOf.f kj25 t250 bt253.1 bt253.2.1 bt253.2.2.1 bt253.2.2.2.1 bt253.2.2.2.2).bind fun t260 => ((laws_eqIntS.f kj25 t260 t212).bind fun t263 => (if t263 = true then ((laws_heldIntS.f kj25 t248 1).bind fun t264 => (if t264 < 0 then (some false) else (if t264 = t247 then (some true) else (some false)))) else (some false))))) = some r := H
                      have A63 := Aside0.mk A630
                      clear A630
                      replace H := Option.bind_eq_some_iff.mp H
                      obtain ⟨⟨t253, t256, t257, t258, t259⟩, A640, H⟩ := H
                      replace H : ((impl_FirstOf.f kj25 t250 t253 t256 t257 t258 t259).bind fun t260 => ((laws_eqIntS.f kj25 t260 t212).bind fun t263 => (if t263 = true then ((laws_heldIntS.f kj25 t248 1).bind fun t264 => (if t264 < 0 then (some false) else (if t264 = t247 then (some true) else (some false)))) else (some false)))) = some r := H
                      have A64 := Aside0.mk A640
                      clear A640
                      replace H := Option.bind_eq_some_iff.mp H
                      obtain ⟨t260, A650, H⟩ := H
                      replace H : ((laws_eqIntS.f kj25 t260 t212).bind fun t263 => (if t263 = true then ((laws_heldIntS.f kj25 t248 1).bind fun t264 => (if t264 < 0 then (some false) else (if t264 = t247 then (some true) else (some false)))) else (some false))) = some r := H
                      have A65 := Aside0.mk A650
                      clear A650
                      replace H := Option.bind_eq_some_iff.mp H
                      obtain ⟨t263, A660, H⟩ := H
                      replace H : (if t263 = true then ((laws_heldIntS.f kj25 t248 1).bind fun t264 => (if t264 < 0 then (some false) else (if t264 = t247 then (some true) else (some false)))) else (some false)) = some r := H
                      have A66 := Aside0.mk A660
                      clear A660
                      by_cases c67 : t263 = true
                      · subst c67
                        have H1 : ((laws_heldIntS.f kj25 t248 1).bind fun t264 => (if t264 < 0 then (some false) else (if t264 = t247 then (some true) else (some false)))) = some r := by rw [if_pos rfl] at H; exact H
                        clear H
                        have H := H1
                        clear H1
                        replace H := Option.bind_eq_some_iff.mp H
                        obtain ⟨t264, A680, H⟩ := H
                        replace H : (if t264 < 0 then (some false) else (if t264 = t247 then (some true) else (some false))) = some r := H
                        have A68 := Aside0.mk A680
                        clear A680
                        by_cases c69 : t264 < 0
                        · rw [if_pos c69] at H
                          have c69b0 : decide (t264 < 0) = true := decide_eq_true c69
                          clear c69
                          exact absurd ((Option.some.inj H).trans HT_.out) (by decide)
                        · rw [if_neg c69] at H
                          have c69b0 : decide (t264 < 0) = false := decide_eq_false c69
                          clear c69
                          by_cases c70 : t264 = t247
                          · rw [if_pos c70] at H
                            have c70b0 : (t264 == t247) = true := beq_iff_eq.mpr c70
                            have c70b1 : (t264 != t247) = false := bne_eq_false_iff_eq.mpr c70
                            clear c70
                            obtain rfl := Option.some.inj H
                            try go_wp2_with (first | ((with_reducible refine gate_callee (f := 22) rfl ?_); refine goesL_ (some 64) rfl rfl Try.func22 (by kernel_rfl) rfl #[.slice Ao45 t226.length co45, .int .i64 1] rfl (by (try simp only [List.map_toArray, List.map_cons, List.map_nil]); first | done | rfl | (simp only [List.length_drop, List.length_take]; rfl)) ?_; (with_reducible refine (laws_markIntS.calls kj25 (fun k_ => some k_ = (.slice Ao45 t226.length co45 : Value).ownBlock) (.slice Ao45 t226.length co45) t226 1 t247 t248 w _ ?side1 ?side2 A59.out).mono ?_); (case side1 => repeat (first | (with_reducible first | exact HB.out | apply below_alloc | apply pw_below_drewN | apply below_drew1 | refine below_set ?_ GE200.out | refine below_set ?_ GE225.out) | exact HB.out)); (case side2 => exact Kd.R_tight rfl HO_9.out); rintro e w71 ⟨rfl, hy0, hb, hkp⟩; refine ⟨_, rfl, ?_⟩; have n0_ := Aside0.mk (Kd.R_mono (ok' := fun k_ => some k_ ≠ (.slice Ao45 t226.length co45 : Value).ownBlock ∧ some k_ ≠ (.slice Ao40 t245.length co40 : Value).ownBlock) (Kd.R_keptB (HO_6.out) hkp (fun k_ hk_ hs_ => by simp only [ne_eq, hs_, not_true_eq_false, and_false, false_and] at hk_)) (fun k_ hk_ => by simp only [ne_eq, hk_, not_false_eq_true, and_self])); have n1_ := Aside0.mk (Kd.R_reok rfl hy0 (fun k_ e_ => HO_9.out.1 k_ e_)); have n2_ := Aside0.mk (Kd.R_mono (ok' := fun k_ => some k_ ≠ (.slice Ao46 t212.length co46 : Value).ownBlock ∧ some k_ ≠ (.slice Ao45 t226.length co45 : Value).ownBlock) (Kd.R_keptB (HO_226000.out) hkp (fun k_ hk_ hs_ => by simp only [ne_eq, hs_, not_true_eq_false, and_false, false_and] at hk_)) (fun k_ hk_ => by simp only [ne_eq, hk_, not_false_eq_true, and_self])); have n3_ := Aside0.mk (blk_kept (by (with_reducible repeat (first | refine blk_drewN ?_ _ | refine blk_drew ?_ | refine blk_alloc ?_ _)); exact BK200.out) hkp (fun hs_ => (fun e_ => (Kd.R_ne HO_9.out BK200.out (by decide)) e_) hs_)); have n4_ := Aside0.mk (blk_kept (by (with_reducible repeat (first | refine blk_drewN ?_ _ | refine blk_drew ?_ | refine blk_alloc ?_ _)); exact BK225.out) hkp (fun hs_ => (fun e_ => (Kd.R_ne HO_9.out BK225.out (by decide)) e_) hs_)); have n5_ := Aside0.mk (hb); clear HO_6; clear HO_9; clear HO_226000; clear BK200; clear BK225; clear HB; have HO_6 := n0_; have HO_9 := n1_; have HO_226000 := n2_; have BK200 := n3_; have BK225 := n4_; have HB := n5_; clear n0_ n1_ n2_ n3_ n4_ n5_; (try clear hb); (try clear hkp); (try clear hy0)) | ((with_reducible refine gate_callee (f := 24) rfl ?_); refine goesL_ (some 67) rfl rfl Try.func24 (by kernel_rfl) rfl #[.slice Ao45 t248.length co45, .int .i64 1] rfl (by (try simp only [List.map_toArray, List.map_cons, List.map_nil]); first | done | (rw [show t248.length = t226.length from (Kd.R_reads' HO_9.out).1.symm] <;> rfl) | rfl | (simp only [List.length_drop, List.length_take]; rfl)) ?_; (with_reducible refine (laws_heldIntS.calls kj25 _ _ t248 1 t249 _ ?side1 ?side2 A60.out).mono ?_); (case side1 => repeat (first | exact (Kd.R_reads' HO_9.out).2.2 | (with_reducible refine Kd.C_alloc ?_ _) | (with_reducible refine Kd.C_drewN ?_ _) | (with_reducible refine Kd.C_drew ?_))); (case side2 => rw [show t248.length = t226.length from (Kd.R_reads' HO_9.out).1.symm]; exact (Kd.R_reads' HO_9.out).2.1); rintro e w' ⟨rfl, ⟨nd, rfl⟩⟩; refine ⟨_, rfl, ?_⟩))
                            (try (rw [drewN_self w71]; generalize hq_ : World.drewN w71 _ = w71; have n0_ : Aside0 (Kd.R (Kd.int .i64) 3 w71 w.heap.size (fun k_ => some k_ ≠ (.slice Ao46 t212.length co46 : Value).ownBlock ∧ some k_ ≠ (.slice Ao45 t226.length co45 : Value).ownBlock) (.slice Ao40 t245.length co40) t245) := ⟨by rw [← hq_]; exact (by (with_reducible repeat (first | apply Kd.R_alloc | apply Kd.R_drewN | apply Kd.R_drew)); exact HO_226000.out)⟩; have n1_ : Aside0 (Kd.R (Kd.int .i64) 3 w71 w.heap.size (fun k_ => some k_ ≠ (.slice Ao40 t245.length co40 : Value).ownBlock ∧ some k_ ≠ (.slice Ao45 t226.length co45 : Value).ownBlock) (.slice Ao46 t212.length co46) t212) := ⟨by rw [← hq_]; exact (by (with_reducible repeat (first | apply Kd.R_alloc | apply Kd.R_drewN | apply Kd.R_drew)); exact Kd.R_mono HO_6.out (fun _ hk => by simp only [ne_eq, hk, not_false_eq_true, and_self]))⟩; have n2_ : Aside0 (Kd.R (Kd.int .i64) 3 w71 w.heap.size (fun k_ => some k_ ≠ (.slice Ao40 t245.length co40 : Value).ownBlock ∧ some k_ ≠ (.slice Ao46 t212.length co46 : Value).ownBlock) (.slice Ao45 t226.length co45) t248) := ⟨by rw [← hq_]; exact (by (with_reducible repeat (first | apply Kd.R_alloc | apply Kd.R_drewN | apply Kd.R_drew)); exact Kd.R_mono HO_9.out (fun _ hk => by simp only [ne_eq, hk, not_false_eq_true, and_self]))⟩; have n3_ : Aside0 (w71.heap[gb200]? = some (.cells #[.slice A1_0 l1_0.length c1_0, .int .i64 a1_1, .int .i64 a1_2, .int .i64 a1_3, .int .i64 a1_4] 24 (0, 0))) := ⟨by rw [← hq_]; exact (by (with_reducible repeat (first | refine blk_drewN ?_ _ | refine blk_drew ?_ | refine blk_alloc ?_ _)); exact BK200.out)⟩; have n4_ : Aside0 (w71.heap[gb225]? = some (.cells #[.slice Ao40 t245.length co40, .int .i64 t221, .int .i64 t222, .int .i64 t223, .int .i64 t224] 28 (0, 0))) := ⟨by rw [← hq_]; exact (by (with_reducible repeat (first | refine blk_drewN ?_ _ | refine blk_drew ?_ | refine blk_alloc ?_ _)); exact BK225.out)⟩; have n5_ : Aside0 (Below w.heap.size w w71) := ⟨by rw [← hq_]; exact (by repeat (first | (with_reducible first | exact HB.out | apply below_alloc | apply pw_below_drewN | apply below_drew1 | refine below_set ?_ GE200.out | refine below_set ?_ GE225.out) | exact HB.out))⟩; clear HO_226000 HO_6 HO_9 BK200 BK225 HB hq_; have HO_226000 := n0_; have HO_6 := n1_; have HO_9 := n2_; have BK200 := n3_; have BK225 := n4_; have HB := n5_; clear n0_ n1_ n2_ n3_ n4_ n5_))
                            have n0_ := Aside0.mk (Kd.R_drew HO_6.out)
                            have n1_ := Aside0.mk (Kd.R_drew HO_9.out)
                            have n2_ := Aside0.mk (Kd.R_drew HO_226000.out)
                            have n3_ := Aside0.mk (blk_drew BK200.out)
                            have n4_ := Aside0.mk (blk_drew BK225.out)
                            have n5_ := Aside0.mk (below_drew1 HB.out)
                            clear HO_6
                            clear HO_9
                            clear HO_226000
                            clear BK200
                            clear BK225
                            clear HB
                            have HO_6 := n0_
                            have HO_9 := n1_
                            have HO_226000 := n2_
                            have BK200 := n3_
                            have BK225 := n4_
                            have HB := n5_
                            clear n0_ n1_ n2_ n3_ n4_ n5_
                            refine start_ (n := 6) (S := fun w' => w'.cell? ⟨gb200, 0, none⟩ = some (.slice A1_0 l1_0.length c1_0) ∧ w'.cell? ⟨gb200, 1, none⟩ = some (.int .i64 a1_1) ∧ w'.cell? ⟨gb200, 2, none⟩ = some (.int .i64 a1_2) ∧ w'.cell? ⟨gb200, 3, none⟩ = some (.int .i64 a1_3) ∧ w'.cell? ⟨gb200, 4, none⟩ = some (.int .i64 a1_4)) (ds := []) #[false, false, false, false, false, false] (by kernel_rfl) rfl rfl ⟨(blk_cell BK200.out 0).trans rfl, (blk_cell BK200.out 1).trans rfl, (blk_cell BK200.out 2).trans rfl, (blk_cell BK200.out 3).trans rfl, (blk_cell BK200.out 4).trans rfl⟩ (fun hHeld => ?_)
                            generalize w71.drew = w72 at HO_6 HO_9 HO_226000 BK200 BK225 HB hHeld ⊢
                            refine pure_ (i := 0) (N := some 73) (v := ?_) (a' := ?_) #[true, false, false, false, false, false] rfl rfl (by kernel_rfl) (fun _ _ _ h => h) (Or.inl ⟨by rfl, ?_⟩) ?_ ?_
                            rotate_left
                            · intro w'
                              go_simp
                              with_reducible rfl
                            rotate_left
                            · simp only [Act.put, List.setIfInBounds_toArray, List.set_cons_zero, List.set_cons_succ, i64_w, i32_w]
                              rfl
                            refine take_ (i := 2) (N := some 75) (v := ?_) (a' := ?_) #[true, false, true, false, false, false] rfl rfl (by kernel_rfl) (fun _ _ _ h => h) (Or.inl ⟨by rfl, ?_⟩) hHeld ?_ ?_
                            rotate_left
                            · rintro w' ⟨s0, s1, s2, s3, s4⟩
                              go_simp
                              with_reducible rfl
                            rotate_left
                            · simp only [Act.put, List.setIfInBounds_toArray, List.set_cons_zero, List.set_cons_succ, i64_w, i32_w]
                              rfl
                            refine one_ (i := 1) (N := some 74) #[true, true, true, false, false, false] rfl rfl (by kernel_rfl) (by decide) (fun K hK => ?_)
                            refine goes_ Try.func17 (by kernel_rfl) rfl #[.slice A0 l0.length c0] (by rfl) rfl rfl (by (try simp only [List.map_toArray, List.map_cons, List.map_nil]); first | done | rfl | (simp only [List.length_drop, List.length_take]; rfl)) ?_
                            with_reducible refine (laws_toIntS.calls kj25 _ _ l0 t250 _ ?side1 ?side2 A63.out).mono ?_
                            (case side1 => repeat (first | exact (Kd.C_below HR0.out HB.out) | (with_reducible refine Kd.C_alloc ?_ _) | (with_reducible refine Kd.C_drewN ?_ _) | (with_reducible refine Kd.C_drew ?_)))
                            (case side2 => exact HC0.out)
                            rintro e w73 ⟨v251, rfl, ho0, hb⟩
                            refine ⟨_, rfl, ?_⟩
                            have n0_ := Aside0.mk (Kd.R_elder' (by (with_reducible repeat (first | apply Kd.R_alloc | apply Kd.R_drewN | apply Kd.R_drew)); exact HO_6.out) (Kd.R_base ho0) hb)
                            have n1_ := Aside0.mk (Kd.R_elder' (by (with_reducible repeat (first | apply Kd.R_alloc | apply Kd.R_drewN | apply Kd.R_drew)); exact HO_9.out) (Kd.R_base ho0) hb)
                            have n2_ := Aside0.mk (Kd.R_elder' (by (with_reducible repeat (first | apply Kd.R_alloc | apply Kd.R_drewN | apply Kd.R_drew)); exact HO_226000.out) (Kd.R_base ho0) hb)
                            have n3_ := Aside0.mk (Kd.R_lower (Kd.R_new' (Kd.R_new' (Kd.R_new' ho0 (Kd.R_lt (by (with_reducible repeat (first | apply Kd.R_alloc | apply Kd.R_drewN | apply Kd.R_drew)); exact HO_6.out))) (Kd.R_lt (by (with_reducible repeat (first | apply Kd.R_alloc | apply Kd.R_drewN | apply Kd.R_drew)); exact HO_9.out))) (Kd.R_lt (by (with_reducible repeat (first | apply Kd.R_alloc | apply Kd.R_drewN | apply Kd.R_drew)); exact HO_226000.out))) (below_size (by repeat (first | (with_reducible first | exact HB.out | apply below_alloc | apply pw_below_drewN | apply below_drew1 | refine below_set ?_ GE200.out | refine below_set ?_ GE225.out) | exact HB.out))))
                            have n4_ := Aside0.mk (blk_below (g := gb200) (o := .cells #[.slice A1_0 l1_0.length c1_0, .int .i64 a1_1, .int .i64 a1_2, .int .i64 a1_3, .int .i64 a1_4] 24 (0, 0)) (by (with_reducible repeat (first | refine blk_drewN ?_ _ | refine blk_drew ?_ | refine blk_alloc ?_ _)); exact BK200.out) hb)
                            have n5_ := Aside0.mk (blk_below (g := gb225) (o := .cells #[.slice Ao40 t245.length co40, .int .i64 t221, .int .i64 t222, .int .i64 t223, .int .i64 t224] 28 (0, 0)) (by (with_reducible repeat (first | refine blk_drewN ?_ _ | refine blk_drew ?_ | refine blk_alloc ?_ _)); exact BK225.out) hb)
                            have n6_ := Aside0.mk (below_step (by repeat (first | (with_reducible first | exact HB.out | apply below_alloc | apply pw_below_drewN | apply below_drew1 | refine below_set ?_ GE200.out | refine below_set ?_ GE225.out) | exact HB.out)) hb)
                            clear HO_6
                            clear HO_9
                            clear HO_226000
                            clear BK200
                            clear BK225
                            clear HB
                            have HO_6 := n0_
                            have HO_9 := n1_
                            have HO_226000 := n2_
                            have HO252 := n3_
                            have BK200 := n4_
                            have BK225 := n5_
                            have HB := n6_
                            clear n0_ n1_ n2_ n3_ n4_ n5_ n6_
                            (try clear hb)
                            (try clear hb2)
                            (try clear hk)
                            (try clear hi)
                            (try clear ho0)
                            refine hK.out _ _ ⟨(blk_cell BK200.out 0).trans rfl, (blk_cell BK200.out 1).trans rfl, (blk_cell BK200.out 2).trans rfl, (blk_cell BK200.out 3).trans rfl, (blk_cell BK200.out 4).trans rfl⟩ (fun hHeld => ?_)
                            clear hK K
                            refine norm_ (a' := ?_) ?_ ?_
                            rotate_left
                            · show Act.put _ (some 74) _ = _
                              simp only [Act.put, List.setIfInBounds_toArray, List.set_cons_zero, List.set_cons_succ, i64_w, i32_w]
                              rfl
                            refine one_ (i := 3) (N := some 76) #[true, true, true, true, false, false] rfl rfl (by kernel_rfl) (by decide) (fun K hK => ?_)
                            refine goes_ Try.func18 (by kernel_rfl) rfl #[.agg #[.slice A1_0 l1_0.length c1_0, .int .i64 a1_1, .int .i64 a1_2, .int .i64 a1_3, .int .i64 a1_4]] (by rfl) rfl rfl (by (try simp only [List.map_toArray, List.map_cons, List.map_nil]); first | done | rfl | (simp only [List.length_drop, List.length_take]; rfl)) ?_
                            with_reducible refine (laws_toScan.calls kj25 _ _ l1_0 a1_1 a1_2 a1_3 a1_4 t253 t256 t257 t258 t259 _ ?side1 ?side2 A64.out).mono ?_
                            (case side1 => repeat (first | exact (Kd.C_below HR1_0.out HB.out) | (with_reducible refine Kd.C_alloc ?_ _) | (with_reducible refine Kd.C_drewN ?_ _) | (with_reducible refine Kd.C_drew ?_)))
                            (case side2 => exact HC1_0.out)
                            rintro e w74 ⟨v254, rfl, ho0, hb⟩
                            refine ⟨_, rfl, ?_⟩
                            have n0_ := Aside0.mk (Kd.R_elder' (by (with_reducible repeat (first | apply Kd.R_alloc | apply Kd.R_drewN | apply Kd.R_drew)); exact HO_6.out) (Kd.R_base ho0) hb)
                            have n1_ := Aside0.mk (Kd.R_elder' (by (with_reducible repeat (first | apply Kd.R_alloc | apply Kd.R_drewN | apply Kd.R_drew)); exact HO_9.out) (Kd.R_base ho0) hb)
                            have n2_ := Aside0.mk (Kd.R_elder' (by (with_reducible repeat (first | apply Kd.R_alloc | apply Kd.R_drewN | apply Kd.R_drew)); exact HO_226000.out) (Kd.R_base ho0) hb)
                            have n3_ := Aside0.mk (Kd.R_elder' (by (with_reducible repeat (first | apply Kd.R_alloc | apply Kd.R_drewN | apply Kd.R_drew)); exact HO252.out) (Kd.R_base ho0) hb)
                            have n4_ := Aside0.mk (Kd.R_lower (Kd.R_new' (Kd.R_new' (Kd.R_new' (Kd.R_new' ho0 (Kd.R_lt (by (with_reducible repeat (first | apply Kd.R_alloc | apply Kd.R_drewN | apply Kd.R_drew)); exact HO_6.out))) (Kd.R_lt (by (with_reducible repeat (first | apply Kd.R_alloc | apply Kd.R_drewN | apply Kd.R_drew)); exact HO_9.out))) (Kd.R_lt (by (with_reducible repeat (first | apply Kd.R_alloc | apply Kd.R_drewN | apply Kd.R_drew)); exact HO_226000.out))) (Kd.R_lt (by (with_reducible repeat (first | apply Kd.R_alloc | apply Kd.R_drewN | apply Kd.R_drew)); exact HO252.out))) (below_size (by repeat (first | (with_reducible first | exact HB.out | apply below_alloc | apply pw_below_drewN | apply below_drew1 | refine below_set ?_ GE200.out | refine below_set ?_ GE225.out) | exact HB.out))))
                            have n5_ := Aside0.mk (blk_below (g := gb200) (o := .cells #[.slice A1_0 l1_0.length c1_0, .int .i64 a1_1, .int .i64 a1_2, .int .i64 a1_3, .int .i64 a1_4] 24 (0, 0)) (by (with_reducible repeat (first | refine blk_drewN ?_ _ | refine blk_drew ?_ | refine blk_alloc ?_ _)); exact BK200.out) hb)
                            have n6_ := Aside0.mk (blk_below (g := gb225) (o := .cells #[.slice Ao40 t245.length co40, .int .i64 t221, .int .i64 t222, .int .i64 t223, .int .i64 t224] 28 (0, 0)) (by (with_reducible repeat (first | refine blk_drewN ?_ _ | refine blk_drew ?_ | refine blk_alloc ?_ _)); exact BK225.out) hb)
                            have n7_ := Aside0.mk (below_step (by repeat (first | (with_reducible first | exact HB.out | apply below_alloc | apply pw_below_drewN | apply below_drew1 | refine below_set ?_ GE200.out | refine below_set ?_ GE225.out) | exact HB.out)) hb)
                            clear HO_6
                            clear HO_9
                            clear HO_226000
                            clear HO252
                            clear BK200
                            clear BK225
                            clear HB
                            have HO_6 := n0_
                            have HO_9 := n1_
                            have HO_226000 := n2_
                            have HO252 := n3_
                            have HO255 := n4_
                            have BK200 := n5_
                            have BK225 := n6_
                            have HB := n7_
                            clear n0_ n1_ n2_ n3_ n4_ n5_ n6_ n7_
                            (try clear hb)
                            (try clear hb2)
                            (try clear hk)
                            (try clear hi)
                            (try clear ho0)
                            obtain ⟨Ao75, co75, eo75⟩ := Kd.R_slice HO252.out
                            (first | subst eo75 | (injection eo75 with f1_ f2_ f3_; have f4_ := f1_.symm; have f5_ := f3_.symm; clear f1_ f2_ f3_; subst f4_; subst f5_))
                            obtain ⟨Ao76, co76, eo76⟩ := Kd.R_slice HO255.out
                            (first | subst eo76 | (injection eo76 with f1_ f2_ f3_; have f4_ := f1_.symm; have f5_ := f3_.symm; clear f1_ f2_ f3_; subst f4_; subst f5_))
                            refine hK.out _ _ ⟨(blk_cell BK200.out 0).trans rfl, (blk_cell BK200.out 1).trans rfl, (blk_cell BK200.out 2).trans rfl, (blk_cell BK200.out 3).trans rfl, (blk_cell BK200.out 4).trans rfl⟩ (fun hHeld => ?_)
                            clear hK K
                            refine norm_ (a' := ?_) ?_ ?_
                            rotate_left
                            · show Act.put _ (some 76) _ = _
                              simp only [Act.put, List.setIfInBounds_toArray, List.set_cons_zero, List.set_cons_succ, i64_w, i32_w]
                              rfl
                            refine one_ (i := 4) (N := some 77) #[true, true, true, true, true, false] rfl rfl (by kernel_rfl) (by decide) (fun K hK => ?_)
                            refine goes_ Try.func19 (by kernel_rfl) rfl #[.slice Ao75 t250.length co75, .agg #[.slice Ao76 t253.length co76, .int .i64 t256, .int .i64 t257, .int .i64 t258, .int .i64 t259]] (by rfl) rfl rfl (by (try simp only [List.map_toArray, List.map_cons, List.map_nil]); first | done | rfl | (simp only [List.length_drop, List.length_take]; rfl)) ?_
                            with_reducible refine (impl_FirstOf.calls kj25 _ _ t250 _ _ t253 t256 t257 t258 t259 t260 _ ?side1 ?side2 ?side3 ?side4 A65.out).mono ?_
                            (case side1 => repeat (first | exact (Kd.R_reads' HO252.out).2.2 | (with_reducible refine Kd.C_alloc ?_ _) | (with_reducible refine Kd.C_drewN ?_ _) | (with_reducible refine Kd.C_drew ?_)))
                            (case side2 => exact (Kd.R_reads' HO252.out).2.1)
                            (case side3 => repeat (first | exact (Kd.R_reads' HO255.out).2.2 | (with_reducible refine Kd.C_alloc ?_ _) | (with_reducible refine Kd.C_drewN ?_ _) | (with_reducible refine Kd.C_drew ?_)))
                            (case side4 => exact (Kd.R_reads' HO255.out).2.1)
                            rintro e w77 ⟨v261, rfl, ho0, hb⟩
                            refine ⟨_, rfl, ?_⟩
                            have n0_ := Aside0.mk (Kd.R_elder' (by (with_reducible repeat (first | apply Kd.R_alloc | apply Kd.R_drewN | apply Kd.R_drew)); exact HO_6.out) (Kd.R_base ho0) hb)
                            have n1_ := Aside0.mk (Kd.R_elder' (by (with_reducible repeat (first | apply Kd.R_alloc | apply Kd.R_drewN | apply Kd.R_drew)); exact HO_9.out) (Kd.R_base ho0) hb)
                            have n2_ := Aside0.mk (Kd.R_elder' (by (with_reducible repeat (first | apply Kd.R_alloc | apply Kd.R_drewN | apply Kd.R_drew)); exact HO_226000.out) (Kd.R_base ho0) hb)
                            have n3_ := Aside0.mk (Kd.R_elder' (by (with_reducible repeat (first | apply Kd.R_alloc | apply Kd.R_drewN | apply Kd.R_drew)); exact HO252.out) (Kd.R_base ho0) hb)
                            have n4_ := Aside0.mk (Kd.R_elder' (by (with_reducible repeat (first | apply Kd.R_alloc | apply Kd.R_drewN | apply Kd.R_drew)); exact HO255.out) (Kd.R_base ho0) hb)
                            have n5_ := Aside0.mk (Kd.R_lower (Kd.R_new' (Kd.R_new' (Kd.R_new' (Kd.R_new' (Kd.R_new' ho0 (Kd.R_lt (by (with_reducible repeat (first | apply Kd.R_alloc | apply Kd.R_drewN | apply Kd.R_drew)); exact HO_6.out))) (Kd.R_lt (by (with_reducible repeat (first | apply Kd.R_alloc | apply Kd.R_drewN | apply Kd.R_drew)); exact HO_9.out))) (Kd.R_lt (by (with_reducible repeat (first | apply Kd.R_alloc | apply Kd.R_drewN | apply Kd.R_drew)); exact HO_226000.out))) (Kd.R_lt (by (with_reducible repeat (first | apply Kd.R_alloc | apply Kd.R_drewN | apply Kd.R_drew)); exact HO252.out))) (Kd.R_lt (by (with_reducible repeat (first | apply Kd.R_alloc | apply Kd.R_drewN | apply Kd.R_drew)); exact HO255.out))) (below_size (by repeat (first | (with_reducible first | exact HB.out | apply below_alloc | apply pw_below_drewN | apply below_drew1 | refine below_set ?_ GE200.out | refine below_set ?_ GE225.out) | exact HB.out))))
                            have n6_ := Aside0.mk (blk_below (g := gb200) (o := .cells #[.slice A1_0 l1_0.length c1_0, .int .i64 a1_1, .int .i64 a1_2, .int .i64 a1_3, .int .i64 a1_4] 24 (0, 0)) (by (with_reducible repeat (first | refine blk_drewN ?_ _ | refine blk_drew ?_ | refine blk_alloc ?_ _)); exact BK200.out) hb)
                            have n7_ := Aside0.mk (blk_below (g := gb225) (o := .cells #[.slice Ao40 t245.length co40, .int .i64 t221, .int .i64 t222, .int .i64 t223, .int .i64 t224] 28 (0, 0)) (by (with_reducible repeat (first | refine blk_drewN ?_ _ | refine blk_drew ?_ | refine blk_alloc ?_ _)); exact BK225.out) hb)
                            have n8_ := Aside0.mk (below_step (by repeat (first | (with_reducible first | exact HB.out | apply below_alloc | apply pw_below_drewN | apply below_drew1 | refine below_set ?_ GE200.out | refine below_set ?_ GE225.out) | exact HB.out)) hb)
                            clear HO_6
                            clear HO_9
                            clear HO_226000
                            clear HO252
                            clear HO255
                            clear BK200
                            clear BK225
                            clear HB
                            have HO_6 := n0_
                            have HO_9 := n1_
                            have HO_226000 := n2_
                            have HO252 := n3_
                            have HO255 := n4_
                            have HO262 := n5_
                            have BK200 := n6_
                            have BK225 := n7_
                            have HB := n8_
                            clear n0_ n1_ n2_ n3_ n4_ n5_ n6_ n7_ n8_
                            (try clear hb)
                            (try clear hb2)
                            (try clear hk)
                            (try clear hi)
                            (try clear ho0)
                            refine hK.out _ _ ⟨(blk_cell BK200.out 0).trans rfl, (blk_cell BK200.out 1).trans rfl, (blk_cell BK200.out 2).trans rfl, (blk_cell BK200.out 3).trans rfl, (blk_cell BK200.out 4).trans rfl⟩ (fun hHeld => ?_)
                            clear hK K
                            refine norm_ (a' := ?_) ?_ ?_
                            rotate_left
                            · show Act.put _ (some 77) _ = _
                              simp only [Act.put, List.setIfInBounds_toArray, List.set_cons_zero, List.set_cons_succ, i64_w, i32_w]
                              rfl
                            refine pure_ (i := 5) (N := some 13) (v := ?_) (a' := ?_) #[true, true, true, true, true, true] rfl rfl (by kernel_rfl) (fun _ _ _ h => h) (Or.inl ⟨by rfl, ?_⟩) ?_ ?_
                            rotate_left
                            · intro w'
                              go_simp
                              with_reducible rfl
                            rotate_left
                            · simp only [Act.put, List.setIfInBounds_toArray, List.set_cons_zero, List.set_cons_succ, i64_w, i32_w]
                              rfl
                            refine done_ (by kernel_rfl) ?_
                            obtain ⟨Ao78, co78, eo78⟩ := Kd.R_slice HO262.out
                            subst eo78
                            try go_wp2_with (first | ((with_reducible refine gate_callee (f := 20) rfl ?_); refine goesL_ (some 80) rfl rfl Try.func20 (by kernel_rfl) rfl #[.slice Ao78 t260.length co78, .slice Ao46 t212.length co46] rfl (by (try simp only [List.map_toArray, List.map_cons, List.map_nil]); first | done | rfl | (simp only [List.length_drop, List.length_take]; rfl)) ?_; (with_reducible refine (laws_eqIntS.calls kj25 _ _ t260 _ _ t212 true _ ?side1 ?side2 ?side3 ?side4 A66.out).mono ?_); (case side1 => repeat (first | exact (Kd.R_reads' HO262.out).2.2 | (with_reducible refine Kd.C_alloc ?_ _) | (with_reducible refine Kd.C_drewN ?_ _) | (with_reducible refine Kd.C_drew ?_))); (case side2 => exact (Kd.R_reads' HO262.out).2.1); (case side3 => repeat (first | exact (Kd.R_reads' HO_6.out).2.2 | (with_reducible refine Kd.C_alloc ?_ _) | (with_reducible refine Kd.C_drewN ?_ _) | (with_reducible refine Kd.C_drew ?_))); (case side4 => exact (Kd.R_reads' HO_6.out).2.1); rintro e w' ⟨rfl, ⟨nd, rfl⟩⟩; refine ⟨_, rfl, ?_⟩) | ((with_reducible refine gate_callee (f := 24) rfl ?_); refine goesL_ (some 84) rfl rfl Try.func24 (by kernel_rfl) rfl #[.slice Ao45 t248.length co45, .int .i64 1] rfl (by (try simp only [List.map_toArray, List.map_cons, List.map_nil]); first | done | (rw [show t248.length = t226.length from (Kd.R_reads' HO_9.out).1.symm] <;> rfl) | rfl | (simp only [List.length_drop, List.length_take]; rfl)) ?_; (with_reducible refine (laws_heldIntS.calls kj25 _ _ t248 1 t264 _ ?side1 ?side2 A68.out).mono ?_); (case side1 => repeat (first | exact (Kd.R_reads' HO_9.out).2.2 | (with_reducible refine Kd.C_alloc ?_ _) | (with_reducible refine Kd.C_drewN ?_ _) | (with_reducible refine Kd.C_drew ?_))); (case side2 => rw [show t248.length = t226.length from (Kd.R_reads' HO_9.out).1.symm]; exact (Kd.R_reads' HO_9.out).2.1); rintro e w' ⟨rfl, ⟨nd, rfl⟩⟩; refine ⟨_, rfl, ?_⟩))
                            go_ret
                            exact ⟨by first | rfl | (simp [errW_none, errW_some] <;> rfl) | (simp [*, errW_none, errW_some] <;> rfl), by repeat (first | (with_reducible first | exact HB.out | apply below_alloc | apply pw_below_drewN | apply below_drew1 | refine below_set ?_ GE200.out | refine below_set ?_ GE225.out) | exact HB.out)⟩
                          · rw [if_neg c70] at H
                            have c70b0 : (t264 == t247) = false := beq_eq_false_iff_ne.mpr c70
                            have c70b1 : (t264 != t247) = true := bne_iff_ne.mpr c70
                            exact absurd ((Option.some.inj H).trans HT_.out) (by decide)
                      · replace c67 := Bool.eq_false_iff.mpr c67
                        subst c67
                        have H1 : (some false) = some r := by rw [if_neg (show ¬ (false = true) by decide)] at H; exact H
                        clear H
                        have H := H1
                        clear H1
                        exact absurd ((Option.some.inj H).trans HT_.out) (by decide)
                    · rw [if_neg c62] at H
                      have c62b0 : (t249 == t247) = false := beq_eq_false_iff_ne.mpr c62
                      have c62b1 : (t249 != t247) = true := bne_iff_ne.mpr c62
                      exact absurd ((Option.some.inj H).trans HT_.out) (by decide)
          · replace c23 := Bool.eq_false_iff.mpr c23
            subst c23
            have H1 : (some false) = some r := by rw [if_neg (show ¬ (false = true) by decide)] at H; exact H
            clear H
            have H := H1
            clear H1
            exact absurd ((Option.some.inj H).trans HT_.out) (by decide)
        · replace c20 := Bool.eq_false_iff.mpr c20
          subst c20
          have H1 : (some false) = some r := by rw [if_neg (show ¬ (false = true) by decide)] at H; exact H
          clear H
          have H := H1
          clear H1
          exact absurd ((Option.some.inj H).trans HT_.out) (by decide)
      · replace c17 := Bool.eq_false_iff.mpr c17
        subst c17
        have H1 : (some false) = some r := by rw [if_neg (show ¬ (false = true) by decide)] at H; exact H
        clear H
        have H := H1
        clear H1
        exact absurd ((Option.some.inj H).trans HT_.out) (by decide)

def wf24 (x : S24) : Prop := ((x.f0).length ≤ maxLen ∧ ∀ y_7 ∈ (x.f0), (Lit.int .i64 y_7).wf = true) ∧ (Lit.int .i64 x.f1).wf = true ∧ (Lit.int .i64 x.f2).wf = true ∧ (Lit.int .i64 x.f3).wf = true ∧ (Lit.int .i64 x.f4).wf = true
theorem op24 : Op.Opens Try.prog 24 k24 wf24 := Op.opens_mono (Op.opens_struct (fun x_ => ⟨x_.1, x_.2.1, x_.2.2.1, x_.2.2.2.1, x_.2.2.2.2⟩) (fun _ => rfl) Try.underlying24 (by kernel_rfl) (Op.opensF_cons rfl (by kernel_rfl) (Op.opens_slice Try.underlying22 (by kernel_rfl) (Op.opens_int Try.underlying3)) (Op.opensF_cons rfl (by kernel_rfl) (Op.opens_int Try.underlying3) (Op.opensF_cons rfl (by kernel_rfl) (Op.opens_int Try.underlying3) (Op.opensF_cons rfl (by kernel_rfl) (Op.opens_int Try.underlying3) (Op.opensF_last rfl (by kernel_rfl) (Op.opens_int Try.underlying3))))))) (fun _ h_ => h_)
/-- The one pure statement of laws_FnExactFirstOf. -/
def laws_FnExactFirstOf.Pure : Prop := ∀ (l0 : List Int) (l1_0 : List Int) (a1_1 : Int) (a1_2 : Int) (a1_3 : Int) (a1_4 : Int), (l0.length ≤ maxLen ∧ ∀ y_7 ∈ l0, (Lit.int .i64 y_7).wf = true) → (l1_0.length ≤ maxLen ∧ ∀ y_7 ∈ l1_0, (Lit.int .i64 y_7).wf = true) → (Lit.int .i64 a1_1).wf = true → (Lit.int .i64 a1_2).wf = true → (Lit.int .i64 a1_3).wf = true → (Lit.int .i64 a1_4).wf = true → ∃ k, laws_FnExactFirstOf.f k l0 l1_0 a1_1 a1_2 a1_3 a1_4 = some true
theorem laws_FnExactFirstOf.walk (P : laws_FnExactFirstOf.Pure) (A0 : Option Addr) (c0 : Nat) (l0 : List Int) (A1_0 : Option Addr) (c1_0 : Nat) (l1_0 : List Int) (a1_1 : Int) (a1_2 : Int) (a1_3 : Int) (a1_4 : Int) (w : World) (hr0 : Kd.C (Kd.int .i64) w A0 l0.length l0) (hc0 : l0.length ≤ c0) (hr1_0 : Kd.C (Kd.int .i64) w A1_0 l1_0.length l1_0) (hc1_0 : l1_0.length ≤ c1_0) (ql0 : (l0.length ≤ maxLen ∧ ∀ y_7 ∈ l0, (Lit.int .i64 y_7).wf = true)) (ql1_0 : (l1_0.length ≤ maxLen ∧ ∀ y_7 ∈ l1_0, (Lit.int .i64 y_7).wf = true)) (qa1_1 : (Lit.int .i64 a1_1).wf = true) (qa1_2 : (Lit.int .i64 a1_2).wf = true) (qa1_3 : (Lit.int .i64 a1_3).wf = true) (qa1_4 : (Lit.int .i64 a1_4).wf = true) :
    Calls Try.prog 3 #[.slice A0 l0.length c0, .agg #[.slice A1_0 l1_0.length c1_0, .int .i64 a1_1, .int .i64 a1_2, .int .i64 a1_3, .int .i64 a1_4]] w fun e w' => e = .returned (.bool true) ∧ Below w.heap.size w w' := by
  obtain ⟨k, h⟩ := P l0 l1_0 a1_1 a1_2 a1_3 a1_4 ql0 ql1_0 qa1_1 qa1_2 qa1_3 qa1_4
  refine (laws_FnExactFirstOf.calls k A0 c0 l0 A1_0 c1_0 l1_0 a1_1 a1_2 a1_3 a1_4 true w hr0 hc0 hr1_0 hc1_0 ⟨rfl⟩ h).mono ?_
  rintro e w' ⟨rfl, hd⟩
  exact ⟨rfl, hd⟩

end Go.Proofs.Ythajjjpblkhmmaa.CF
