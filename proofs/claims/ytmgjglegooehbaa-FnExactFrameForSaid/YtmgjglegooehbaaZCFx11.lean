/- Functions that a law of this seat reaches: written by a program of this session (wip/xprint.py), and by hand. -/
import Derived.Test.YtmgjglegooehbaaZCFx0
import Derived.Test.YtmgjglegooehbaaZCFx1
import Derived.Test.YtmgjglegooehbaaZCFx5
import Derived.Test.YtmgjglegooehbaaZCFx7
import Derived.Test.YtmgjglegooehbaaZCFx8
import Derived.Test.YtmgjglegooehbaaZCFx9
import Derived.Test.YtmgjglegooehbaaZCFx10
namespace Go.Proofs.Ytmgjglegooehbaa.CF
open Go.RowKit Go.Proofs.Ytmgjglegooehbaa.B Go.Proofs.YtmgjglegooehbaaW.PrintWords Go.Proofs.YtmgjglegooehbaaW.PrintLast Go.Proofs.YtmgjglegooehbaaW.PrintMore
attribute [local go_sem] max2_int min2_int max_two min_two max_three min_three max_four min_four   -- for this text's walks alone
set_option linter.unusedVariables false
set_option linter.unusedSimpArgs false

/-! ### laws_FnExactFrameFor: function 3 -/
def laws_FnExactFrameFor.j0 : Nat → Bool → Int → Int → Int → List (List Int) → Int → Int → Int → Int → Bool → Bool → Int → Int → Int → Int → List (S55) → Int → Int → Int → Int → List (S55) → Option (Bool)
 | 0, _, _, _, _, _, _, _, _, _, _, _, _, _, _, _, _, _, _, _, _, _ => none
 | k + 1, x48, x237000, x237001, x237002, x237003, x238000, x238001, x238002, x238003, x238004, x238005, x259000, x259001, x259002, x259003, x259004, x280000, x280001, x280002, x280003, x280004 => if x48 = true then (some false) else ((laws_markFrame.f k x280000 x280001 x280002 x280003 x280004 1).bind fun bt291 => ((laws_heldFrame.f k x280000 x280001 x280002 x280003 bt291.2 1).bind fun t293 => (if t293 < 0 then (some false) else (if t293 = bt291.1 then ((laws_toPicture.f k x237000 x237001 x237002 x237003).bind fun bt294 => ((laws_toOptions.f x238000 x238001 x238002 x238003 x238004 x238005).bind fun bt300 => ((impl_FrameFor.f k bt294.1 bt294.2.1 bt294.2.2.1 bt294.2.2.2 bt300.1 bt300.2.1 bt300.2.2.1 bt300.2.2.2.1 bt300.2.2.2.2.1 bt300.2.2.2.2.2).bind fun bt306 => ((laws_eqFrame.f k bt306.1 bt306.2.1 bt306.2.2.1 bt306.2.2.2.1 bt306.2.2.2.2 x259000 x259001 x259002 x259003 x259004).bind fun t314 => (if t314 = true then ((laws_heldFrame.f k x280000 x280001 x280002 x280003 bt291.2 1).bind fun t315 => (if t315 < 0 then (some false) else (if t315 = bt291.1 then (some true) else (some false)))) else (some false)))))) else (some false)))))
def laws_FnExactFrameFor.f (k : Nat) (a0_0 : Int) (a0_1 : Int) (a0_2 : Int) (l0_3 : List (List Int)) (a1_0 : Int) (a1_1 : Int) (a1_2 : Int) (a1_3 : Int) (a1_4 : Bool) (a1_5 : Bool) : Option (Bool) := (laws_szPicture.f k a0_0 a0_1 a0_2 l0_3 1048576).bind fun t238 => (if t238 < 0 then (some true) else ((laws_toPicture.f k a0_0 a0_1 a0_2 l0_3).bind fun bt239 => ((laws_toOptions.f a1_0 a1_1 a1_2 a1_3 a1_4 a1_5).bind fun bt245 => ((spec_FrameFor.f k bt239.1 bt239.2.1 bt239.2.2.1 bt239.2.2.2 bt245.1 bt245.2.1 bt245.2.2.1 bt245.2.2.2.1 bt245.2.2.2.2.1 bt245.2.2.2.2.2).bind fun bt251 => ((laws_toPicture.f k a0_0 a0_1 a0_2 l0_3).bind fun bt259 => ((laws_toOptions.f a1_0 a1_1 a1_2 a1_3 a1_4 a1_5).bind fun bt266 => ((impl_FrameFor.f k bt259.1 bt259.2.1 bt259.2.2.1 bt259.2.2.2 bt266.1 bt266.2.1 bt266.2.2.1 bt266.2.2.2.1 bt266.2.2.2.2.1 bt266.2.2.2.2.2).bind fun bt272 => ((laws_eqFrame.f k bt272.1 bt272.2.1 bt272.2.2.1 bt272.2.2.2.1 bt272.2.2.2.2 bt251.1 bt251.2.1 bt251.2.2.1 bt251.2.2.2.1 bt251.2.2.2.2).bind fun t280 => (if t280 = true then ((laws_toPicture.f k a0_0 a0_1 a0_2 l0_3).bind fun bt281 => ((laws_eqPicture.f k bt259.1 bt259.2.1 bt259.2.2.1 bt259.2.2.2 bt281.1 bt281.2.1 bt281.2.2.1 bt281.2.2.2).bind fun t287 => (if t287 = true then ((laws_markPicture.f k bt259.1 bt259.2.1 bt259.2.2.1 bt259.2.2.2 1).bind fun bt288 => (if bt288.1 < 0 then (laws_FnExactFrameFor.j0 k true a0_0 a0_1 a0_2 l0_3 a1_0 a1_1 a1_2 a1_3 a1_4 a1_5 bt251.1 bt251.2.1 bt251.2.2.1 bt251.2.2.2.1 bt251.2.2.2.2 bt272.1 bt272.2.1 bt272.2.2.1 bt272.2.2.2.1 bt272.2.2.2.2) else ((laws_eqFrame.f k bt272.1 bt272.2.1 bt272.2.2.1 bt272.2.2.2.1 bt272.2.2.2.2 bt251.1 bt251.2.1 bt251.2.2.1 bt251.2.2.2.1 bt251.2.2.2.2).bind fun t290 => (laws_FnExactFrameFor.j0 k (!t290) a0_0 a0_1 a0_2 l0_3 a1_0 a1_1 a1_2 a1_3 a1_4 a1_5 bt251.1 bt251.2.1 bt251.2.2.1 bt251.2.2.2.1 bt251.2.2.2.2 bt272.1 bt272.2.1 bt272.2.2.1 bt272.2.2.2.1 bt272.2.2.2.2)))) else (some false)))) else (some false))))))))))
theorem laws_FnExactFrameFor.mono_l : ∀ k, (∀ y0 y1 y2 y3 y4 y5 y6 y7 y8 y9 y10 y11 y12 y13 y14 y15 y16 y17 y18 y19 y20, LeO (laws_FnExactFrameFor.j0 k y0 y1 y2 y3 y4 y5 y6 y7 y8 y9 y10 y11 y12 y13 y14 y15 y16 y17 y18 y19 y20) (laws_FnExactFrameFor.j0 (k + 1) y0 y1 y2 y3 y4 y5 y6 y7 y8 y9 y10 y11 y12 y13 y14 y15 y16 y17 y18 y19 y20))
 | 0 => fun _ _ _ _ _ _ _ _ _ _ _ _ _ _ _ _ _ _ _ _ _ r h => by simp [laws_FnExactFrameFor.j0] at h
 | k + 1 => by
  have ih0 := laws_FnExactFrameFor.mono_l k
  · intro y0 y1 y2 y3 y4 y5 y6 y7 y8 y9 y10 y11 y12 y13 y14 y15 y16 y17 y18 y19 y20
    unfold laws_FnExactFrameFor.j0
    repeat' first
    | (with_reducible exact ih0 _ _ _ _ _ _ _ _ _ _ _ _ _ _ _ _ _ _ _ _ _)
    | (with_reducible exact impl_FrameFor.mono _ _ _ _ _ _ _ _ _ _ _)
    | (with_reducible exact laws_eqFrame.mono _ _ _ _ _ _ _ _ _ _ _)
    | (with_reducible exact laws_eqPicture.mono _ _ _ _ _ _ _ _ _)
    | (with_reducible exact laws_heldFrame.mono _ _ _ _ _ _ _)
    | (with_reducible exact laws_markFrame.mono _ _ _ _ _ _ _)
    | (with_reducible exact laws_markPicture.mono _ _ _ _ _ _)
    | (with_reducible exact laws_szPicture.mono _ _ _ _ _ _)
    | (with_reducible exact laws_toPicture.mono _ _ _ _ _)
    | (with_reducible exact spec_FrameFor.mono _ _ _ _ _ _ _ _ _ _ _)
    | (with_reducible exact LeO.refl _)
    | (with_reducible exact LeO.none _)
    | (with_reducible refine LeO.ite ?_ ?_)
    | (with_reducible refine LeO.bind ?_ (fun _ => ?_))
    | exact ih0 _ _ _ _ _ _ _ _ _ _ _ _ _ _ _ _ _ _ _ _ _
    | exact impl_FrameFor.mono _ _ _ _ _ _ _ _ _ _ _
    | exact laws_eqFrame.mono _ _ _ _ _ _ _ _ _ _ _
    | exact laws_eqPicture.mono _ _ _ _ _ _ _ _ _
    | exact laws_heldFrame.mono _ _ _ _ _ _ _
    | exact laws_markFrame.mono _ _ _ _ _ _ _
    | exact laws_markPicture.mono _ _ _ _ _ _
    | exact laws_szPicture.mono _ _ _ _ _ _
    | exact laws_toPicture.mono _ _ _ _ _
    | exact spec_FrameFor.mono _ _ _ _ _ _ _ _ _ _ _
    | exact LeO.none _
    | refine LeO.ite ?_ ?_
    | refine LeO.bind ?_ (fun _ => ?_)
theorem laws_FnExactFrameFor.mono : ∀ a0 a1 a2 a3 a4 a5 a6 a7 a8 a9 k, LeO (laws_FnExactFrameFor.f k a0 a1 a2 a3 a4 a5 a6 a7 a8 a9) (laws_FnExactFrameFor.f (k + 1) a0 a1 a2 a3 a4 a5 a6 a7 a8 a9) := by
 intro a0 a1 a2 a3 a4 a5 a6 a7 a8 a9 k
 have ih0 := laws_FnExactFrameFor.mono_l k
 unfold laws_FnExactFrameFor.f
 repeat' first
  | (with_reducible exact ih0 _ _ _ _ _ _ _ _ _ _ _ _ _ _ _ _ _ _ _ _ _)
  | (with_reducible exact impl_FrameFor.mono _ _ _ _ _ _ _ _ _ _ _)
  | (with_reducible exact laws_eqFrame.mono _ _ _ _ _ _ _ _ _ _ _)
  | (with_reducible exact laws_eqPicture.mono _ _ _ _ _ _ _ _ _)
  | (with_reducible exact laws_heldFrame.mono _ _ _ _ _ _ _)
  | (with_reducible exact laws_markFrame.mono _ _ _ _ _ _ _)
  | (with_reducible exact laws_markPicture.mono _ _ _ _ _ _)
  | (with_reducible exact laws_szPicture.mono _ _ _ _ _ _)
  | (with_reducible exact laws_toPicture.mono _ _ _ _ _)
  | (with_reducible exact spec_FrameFor.mono _ _ _ _ _ _ _ _ _ _ _)
  | (with_reducible exact LeO.refl _)
  | (with_reducible exact LeO.none _)
  | (with_reducible refine LeO.ite ?_ ?_)
  | (with_reducible refine LeO.bind ?_ (fun _ => ?_))
  | exact ih0 _ _ _ _ _ _ _ _ _ _ _ _ _ _ _ _ _ _ _ _ _
  | exact impl_FrameFor.mono _ _ _ _ _ _ _ _ _ _ _
  | exact laws_eqFrame.mono _ _ _ _ _ _ _ _ _ _ _
  | exact laws_eqPicture.mono _ _ _ _ _ _ _ _ _
  | exact laws_heldFrame.mono _ _ _ _ _ _ _
  | exact laws_markFrame.mono _ _ _ _ _ _ _
  | exact laws_markPicture.mono _ _ _ _ _ _
  | exact laws_szPicture.mono _ _ _ _ _ _
  | exact laws_toPicture.mono _ _ _ _ _
  | exact spec_FrameFor.mono _ _ _ _ _ _ _ _ _ _ _
  | exact LeO.none _
  | refine LeO.ite ?_ ?_
  | refine LeO.bind ?_ (fun _ => ?_)
set_option maxHeartbeats 8000000 in
set_option maxRecDepth 100000 in
theorem laws_FnExactFrameFor.calls (k : Nat) (a0_0 : Int) (a0_1 : Int) (a0_2 : Int) (A0_3 : Option Addr) (c0_3 : Nat) (l0_3 : List (List Int)) (a1_0 : Int) (a1_1 : Int) (a1_2 : Int) (a1_3 : Int) (a1_4 : Bool) (a1_5 : Bool) (r : Bool) (w : World) (hr0_3 : Kd.C (Kd.slice 3 (Kd.int .i64)) w A0_3 l0_3.length l0_3) (hc0_3 : l0_3.length ≤ c0_3) (HTRUE_ : Aside0 (r = true)) (h : laws_FnExactFrameFor.f k a0_0 a0_1 a0_2 l0_3 a1_0 a1_1 a1_2 a1_3 a1_4 a1_5 = some r) :
 Calls Try.prog 3 #[.agg #[.int .i64 a0_0, .int .i64 a0_1, .int .i64 a0_2, .slice A0_3 l0_3.length c0_3], .agg #[.int .i64 a1_0, .int .i64 a1_1, .int .i64 a1_2, .int .i64 a1_3, .bool a1_4, .bool a1_5]] w fun e w' => e = .returned (.bool r) ∧ Below w.heap.size w w' := by
 have hu24 := Try.underlying24
 have hu26 := Try.underlying26
 have hu30 := Try.underlying30
 have hu32 := Try.underlying32
 have HR0_3 := Aside0.mk hr0_3
 have HC0_3 := Aside0.mk hc0_3
 clear hr0_3 hc0_3
 have HB := m0 (Below.refl w.heap.size w)
 have H : ((laws_szPicture.f k a0_0 a0_1 a0_2 l0_3 1048576).bind fun t238 => (if t238 < 0 then (some true) else ((laws_toPicture.f k a0_0 a0_1 a0_2 l0_3).bind fun bt239 => ((laws_toOptions.f a1_0 a1_1 a1_2 a1_3 a1_4 a1_5).bind fun bt245 => ((spec_FrameFor.f k bt239.1 bt239.2.1 bt239.2.2.1 bt239.2.2.2 bt245.1 bt245.2.1 bt245.2.2.1 bt245.2.2.2.1 bt245.2.2.2.2.1 bt245.2.2.2.2.2).bind fun bt251 => ((laws_toPicture.f k a0_0 a0_1 a0_2 l0_3).bind fun bt259 => ((laws_toOptions.f a1_0 a1_1 a1_2 a1_3 a1_4 a1_5).bind fun bt266 => ((impl_FrameFor.f k bt259.1 bt259.2.1 bt259.2.2.1 bt259.2.2.2 bt266.1 bt266.2.1 bt266.2.2.1 bt266.2.2.2.1 bt266.2.2.2.2.1 bt266.2.2.2.2.2).bind fun bt272 => ((laws_eqFrame.f k bt272.1 bt272.2.1 bt272.2.2.1 bt272.2.2.2.1 bt272.2.2.2.2 bt251.1 bt251.2.1 bt251.2.2.1 bt251.2.2.2.1 bt251.2.2.2.2).bind fun t280 => (if t280 = true then ((laws_toPicture.f k a0_0 a0_1 a0_2 l0_3).bind fun bt281 => ((laws_eqPicture.f k bt259.1 bt259.2.1 bt259.2.2.1 bt259.2.2.2 bt281.1 bt281.2.1 bt281.2.2.1 bt281.2.2.2).bind fun t287 => (if t287 = true then ((laws_markPicture.f k bt259.1 bt259.2.1 bt259.2.2.1 bt259.2.2.2 1).bind fun bt288 => (if bt288.1 < 0 then (laws_FnExactFrameFor.j0 k true a0_0 a0_1 a0_2 l0_3 a1_0 a1_1 a1_2 a1_3 a1_4 a1_5 bt251.1 bt251.2.1 bt251.2.2.1 bt251.2.2.2.1 bt251.2.2.2.2 bt272.1 bt272.2.1 bt272.2.2.1 bt272.2.2.2.1 bt272.2.2.2.2) else ((laws_eqFrame.f k bt272.1 bt272.2.1 bt272.2.2.1 bt272.2.2.2.1 bt272.2.2.2.2 bt251.1 bt251.2.1 bt251.2.2.1 bt251.2.2.2.1 bt251.2.2.2.2).bind fun t290 => (laws_FnExactFrameFor.j0 k (!t290) a0_0 a0_1 a0_2 l0_3 a1_0 a1_1 a1_2 a1_3 a1_4 a1_5 bt251.1 bt251.2.1 bt251.2.2.1 bt251.2.2.2.1 bt251.2.2.2.2 bt272.1 bt272.2.1 bt272.2.2.1 bt272.2.2.2.1 bt272.2.2.2.2)))) else (some false)))) else (some false))))))))))) = some r := h
 clear h
 replace H := Option.bind_eq_some_iff.mp H
 obtain ⟨t238, A30, H⟩ := H
 replace H : (if t238 < 0 then (some true) else ((laws_toPicture.f k a0_0 a0_1 a0_2 l0_3).bind fun bt239 => ((laws_toOptions.f a1_0 a1_1 a1_2 a1_3 a1_4 a1_5).bind fun bt245 => ((spec_FrameFor.f k bt239.1 bt239.2.1 bt239.2.2.1 bt239.2.2.2 bt245.1 bt245.2.1 bt245.2.2.1 bt245.2.2.2.1 bt245.2.2.2.2.1 bt245.2.2.2.2.2).bind fun bt251 => ((laws_toPicture.f k a0_0 a0_1 a0_2 l0_3).bind fun bt259 => ((laws_toOptions.f a1_0 a1_1 a1_2 a1_3 a1_4 a1_5).bind fun bt266 => ((impl_FrameFor.f k bt259.1 bt259.2.1 bt259.2.2.1 bt259.2.2.2 bt266.1 bt266.2.1 bt266.2.2.1 bt266.2.2.2.1 bt266.2.2.2.2.1 bt266.2.2.2.2.2).bind fun bt272 => ((laws_eqFrame.f k bt272.1 bt272.2.1 bt272.2.2.1 bt272.2.2.2.1 bt272.2.2.2.2 bt251.1 bt251.2.1 bt251.2.2.1 bt251.2.2.2.1 bt251.2.2.2.2).bind fun t280 => (if t280 = true then ((laws_toPicture.f k a0_0 a0_1 a0_2 l0_3).bind fun bt281 => ((laws_eqPicture.f k bt259.1 bt259.2.1 bt259.2.2.1 bt259.2.2.2 bt281.1 bt281.2.1 bt281.2.2.1 bt281.2.2.2).bind fun t287 => (if t287 = true then ((laws_markPicture.f k bt259.1 bt259.2.1 bt259.2.2.1 bt259.2.2.2 1).bind fun bt288 => (if bt288.1 < 0 then (laws_FnExactFrameFor.j0 k true a0_0 a0_1 a0_2 l0_3 a1_0 a1_1 a1_2 a1_3 a1_4 a1_5 bt251.1 bt251.2.1 bt251.2.2.1 bt251.2.2.2.1 bt251.2.2.2.2 bt272.1 bt272.2.1 bt272.2.2.1 bt272.2.2.2.1 bt272.2.2.2.2) else ((laws_eqFrame.f k bt272.1 bt272.2.1 bt272.2.2.1 bt272.2.2.2.1 bt272.2.2.2.2 bt251.1 bt251.2.1 bt251.2.2.1 bt251.2.2.2.1 bt251.2.2.2.2).bind fun t290 => (laws_FnExactFrameFor.j0 k (!t290) a0_0 a0_1 a0_2 l0_3 a1_0 a1_1 a1_2 a1_3 a1_4 a1_5 bt251.1 bt251.2.1 bt251.2.2.1 bt251.2.2.2.1 bt251.2.2.2.2 bt272.1 bt272.2.1 bt272.2.2.1 bt272.2.2.2.1 bt272.2.2.2.2)))) else (some false)))) else (some false)))))))))) = some r := H
 have A3 := Aside0.mk A30
 clear A30
 by_cases c4 : t238 < 0
 · rw [if_pos c4] at H
   have c4b0 : decide (t238 < 0) = true := decide_eq_true c4
   clear c4
   obtain rfl := Option.some.inj H
   go_enter Try.func3, Try.ntmps3
   go_wp2_with (first | ((with_reducible refine gate_dst (N := 2) rfl ?_); refine box_event ?hg (N := 2) ?hd (cs := #[.int .i64 a0_0, .int .i64 a0_1, .int .i64 a0_2, .slice A0_3 l0_3.length c0_3]) (t := 24) ?hr ?_; (case hd => rfl); (case hg => rfl); (case hr => first | (go_simp; done) | (go_simp; rfl)); intro gb236 hg w5 hbox hb; have n0_ := m0 (below_step (by repeat (first | (with_reducible first | exact HB.out | apply below_alloc | apply pw_below_drewN | apply below_drew1) | exact HB.out)) hb); have n1_ := m0 (hbox); have n2_ := m0 ((by rw [hg]; exact (below_size (by repeat (first | (with_reducible first | exact HB.out | apply below_alloc | apply pw_below_drewN | apply below_drew1) | exact HB.out))) : w.heap.size ≤ gb236)); have n3_ := m0 ((by rw [hg]; exact (below_size (by repeat (first | (with_reducible first | exact HB.out | apply below_alloc | apply pw_below_drewN | apply below_drew1) | exact HB.out))) : w.heap.size ≤ gb236)); clear HB; have HB := n0_; have BK236 := n1_; have GW236 := n2_; have GE236 := n3_; clear n0_ n1_ n2_ n3_; clear hb hbox hg) | ((with_reducible refine gate_dst (N := 3) rfl ?_); refine box_event ?hg (N := 3) ?hd (cs := #[.int .i64 a1_0, .int .i64 a1_1, .int .i64 a1_2, .int .i64 a1_3, .bool a1_4, .bool a1_5]) (t := 26) ?hr ?_; (case hd => rfl); (case hg => rfl); (case hr => first | (go_simp; done) | (go_simp; rfl)); intro gb237 hg w6 hbox hb; have n0_ := m0 (blk_below (bkW BK236.out) hb); have n1_ := m0 (below_step (by repeat (first | (with_reducible first | exact HB.out | apply below_alloc | apply pw_below_drewN | apply below_drew1 | refine below_set ?_ GE236.out) | exact HB.out)) hb); have n2_ := m0 (hbox); have n3_ := m0 ((by rw [hg]; exact (below_size (by repeat (first | (with_reducible first | exact HB.out | apply below_alloc | apply pw_below_drewN | apply below_drew1 | refine below_set ?_ GE236.out) | exact HB.out))) : w.heap.size ≤ gb237)); have n4_ := m0 ((by rw [hg]; exact (below_size (by repeat (first | (with_reducible first | exact HB.out | apply below_alloc | apply pw_below_drewN | apply below_drew1 | refine below_set ?_ GE236.out) | exact HB.out))) : w.heap.size ≤ gb237)); have n5_ := m0 ((by rw [hg]; exact Nat.ne_of_lt (blk_lt (bkW BK236.out)) : gb236 ≠ gb237)); have n6_ := m0 ((by rw [hg]; exact Nat.ne_of_gt (blk_lt (bkW BK236.out)) : gb237 ≠ gb236)); clear BK236 HB; have BK236 := n0_; have HB := n1_; have BK237 := n2_; have GW237 := n3_; have GE237 := n4_; have NB236_237 := n5_; have NB237_236 := n6_; clear n0_ n1_ n2_ n3_ n4_ n5_ n6_; clear hb hbox hg; have hnb7 := NB236_237.out; have hnc7 := NB237_236.out; have hcz8_0 : w6.cell? ⟨gb236, 0, none⟩ = some (.int .i64 a0_0) := bc BK236.out 0; have hcz8_1 : w6.cell? ⟨gb236, 1, none⟩ = some (.int .i64 a0_1) := bc BK236.out 1; have hcz8_2 : w6.cell? ⟨gb236, 2, none⟩ = some (.int .i64 a0_2) := bc BK236.out 2; have hcz8_3 : w6.cell? ⟨gb236, 3, none⟩ = some (.slice A0_3 l0_3.length c0_3) := bc BK236.out 3; have hfz8_0 := blk_frozen BK236.out 0; have hfz8_1 := blk_frozen BK236.out 1; have hfz8_2 := blk_frozen BK236.out 2; have hfz8_3 := blk_frozen BK236.out 3) | ((with_reducible refine gate_callee (f := 6) rfl ?_); refine goesL_ (some 15) rfl rfl Try.func6 (by kernel_rfl) rfl #[.agg #[.int .i64 a0_0, .int .i64 a0_1, .int .i64 a0_2, .slice A0_3 l0_3.length c0_3], .int .i64 1048576] rfl (by (try simp only [List.map_toArray, List.map_cons, List.map_nil]); first | done | rfl | (simp only [List.length_drop, List.length_take]; rfl)) ?_; (with_reducible refine (laws_szPicture.calls k a0_0 a0_1 a0_2 _ _ l0_3 1048576 t238 _ ?side1 ?side2 A3.out).mono ?_); (case side1 => repeat (first | exact (Kd.C_below HR0_3.out HB.out) | (with_reducible refine Kd.C_alloc ?_ _) | (with_reducible refine Kd.C_drewN ?_ _) | (with_reducible refine Kd.C_drew ?_))); (case side2 => exact HC0_3.out); rintro e w9 ⟨rfl, hb⟩; refine ⟨_, rfl, ?_⟩; have n0_ := m0 (blk_below (bkW BK236.out) hb); have n1_ := m0 (blk_below (bkW BK237.out) hb); have n2_ := m0 (below_step (by repeat (first | (with_reducible exact HB.out) | apply below_alloc | apply pw_below_drewN | apply below_drew1 | refine below_set ?_ (Aside0.out (by assumption)))) hb); clear BK236 BK237 HB; have BK236 := n0_; have BK237 := n1_; have HB := n2_; clear n0_ n1_ n2_; (try clear hb); (try clear hb2); (try clear hk); (try clear hi)))
   go_ret
   exact ⟨by first | rfl | (simp [errW_none, errW_some] <;> rfl) | (simp [*, errW_none, errW_some] <;> rfl), by repeat (first | (with_reducible first | exact HB.out | apply below_alloc | apply pw_below_drewN | apply below_drew1 | refine below_set ?_ (Aside0.out (by with_reducible assumption))) | exact HB.out)⟩
 · rw [if_neg c4] at H
   have c4b0 : decide (t238 < 0) = false := decide_eq_false c4
   clear c4
   replace H := Option.bind_eq_some_iff.mp H
   obtain ⟨⟨t239, t240, t241, t242⟩, A100, H⟩ := H
   replace H : ((laws_toOptions.f a1_0 a1_1 a1_2 a1_3 a1_4 a1_5).bind fun bt245 => ((spec_FrameFor.f k t239 t240 t241 t242 bt245.1 bt245.2.1 bt245.2.2.1 bt245.2.2.2.1 bt245.2.2.2.2.1 bt245.2.2.2.2.2).bind fun bt251 => ((laws_toPicture.f k a0_0 a0_1 a0_2 l0_3).bind fun bt259 => ((laws_toOptions.f a1_0 a1_1 a1_2 a1_3 a1_4 a1_5).bind fun bt266 => ((impl_FrameFor.f k bt259.1 bt259.2.1 bt259.2.2.1 bt259.2.2.2 bt266.1 bt266.2.1 bt266.2.2.1 bt266.2.2.2.1 bt266.2.2.2.2.1 bt266.2.2.2.2.2).bind fun bt272 => ((laws_eqFrame.f k bt272.1 bt272.2.1 bt272.2.2.1 bt272.2.2.2.1 bt272.2.2.2.2 bt251.1 bt251.2.1 bt251.2.2.1 bt251.2.2.2.1 bt251.2.2.2.2).bind fun t280 => (if t280 = true then ((laws_toPicture.f k a0_0 a0_1 a0_2 l0_3).bind fun bt281 => ((laws_eqPicture.f k bt259.1 bt259.2.1 bt259.2.2.1 bt259.2.2.2 bt281.1 bt281.2.1 bt281.2.2.1 bt281.2.2.2).bind fun t287 => (if t287 = true then ((laws_markPicture.f k bt259.1 bt259.2.1 bt259.2.2.1 bt259.2.2.2 1).bind fun bt288 => (if bt288.1 < 0 then (laws_FnExactFrameFor.j0 k true a0_0 a0_1 a0_2 l0_3 a1_0 a1_1 a1_2 a1_3 a1_4 a1_5 bt251.1 bt251.2.1 bt251.2.2.1 bt251.2.2.2.1 bt251.2.2.2.2 bt272.1 bt272.2.1 bt272.2.2.1 bt272.2.2.2.1 bt272.2.2.2.2) else ((laws_eqFrame.f k bt272.1 bt272.2.1 bt272.2.2.1 bt272.2.2.2.1 bt272.2.2.2.2 bt251.1 bt251.2.1 bt251.2.2.1 bt251.2.2.2.1 bt251.2.2.2.2).bind fun t290 => (laws_FnExactFrameFor.j0 k (!t290) a0_0 a0_1 a0_2 l0_3 a1_0 a1_1 a1_2 a1_3 a1_4 a1_5 bt251.1 bt251.2.1 bt251.2.2.1 bt251.2.2.2.1 bt251.2.2.2.2 bt272.1 bt272.2.1 bt272.2.2.1 bt272.2.2.2.1 bt272.2.2.2.2)))) else (some false)))) else (some false)))))))) = some r := H
   have A10 := Aside0.mk A100
   clear A100
   replace H := Option.bind_eq_some_iff.mp H
   obtain ⟨⟨t245, t246, t247, t248, t249, t250⟩, A110, H⟩ := H
   replace H : ((spec_FrameFor.f k t239 t240 t241 t242 t245 t246 t247 t248 t249 t250).bind fun bt251 => ((laws_toPicture.f k a0_0 a0_1 a0_2 l0_3).bind fun bt259 => ((laws_toOptions.f a1_0 a1_1 a1_2 a1_3 a1_4 a1_5).bind fun bt266 => ((impl_FrameFor.f k bt259.1 bt259.2.1 bt259.2.2.1 bt259.2.2.2 bt266.1 bt266.2.1 bt266.2.2.1 bt266.2.2.2.1 bt266.2.2.2.2.1 bt266.2.2.2.2.2).bind fun bt272 => ((laws_eqFrame.f k bt272.1 bt272.2.1 bt272.2.2.1 bt272.2.2.2.1 bt272.2.2.2.2 bt251.1 bt251.2.1 bt251.2.2.1 bt251.2.2.2.1 bt251.2.2.2.2).bind fun t280 => (if t280 = true then ((laws_toPicture.f k a0_0 a0_1 a0_2 l0_3).bind fun bt281 => ((laws_eqPicture.f k bt259.1 bt259.2.1 bt259.2.2.1 bt259.2.2.2 bt281.1 bt281.2.1 bt281.2.2.1 bt281.2.2.2).bind fun t287 => (if t287 = true then ((laws_markPicture.f k bt259.1 bt259.2.1 bt259.2.2.1 bt259.2.2.2 1).bind fun bt288 => (if bt288.1 < 0 then (laws_FnExactFrameFor.j0 k true a0_0 a0_1 a0_2 l0_3 a1_0 a1_1 a1_2 a1_3 a1_4 a1_5 bt251.1 bt251.2.1 bt251.2.2.1 bt251.2.2.2.1 bt251.2.2.2.2 bt272.1 bt272.2.1 bt272.2.2.1 bt272.2.2.2.1 bt272.2.2.2.2) else ((laws_eqFrame.f k bt272.1 bt272.2.1 bt272.2.2.1 bt272.2.2.2.1 bt272.2.2.2.2 bt251.1 bt251.2.1 bt251.2.2.1 bt251.2.2.2.1 bt251.2.2.2.2).bind fun t290 => (laws_FnExactFrameFor.j0 k (!t290) a0_0 a0_1 a0_2 l0_3 a1_0 a1_1 a1_2 a1_3 a1_4 a1_5 bt251.1 bt251.2.1 bt251.2.2.1 bt251.2.2.2.1 bt251.2.2.2.2 bt272.1 bt272.2.1 bt272.2.2.1 bt272.2.2.2.1 bt272.2.2.2.2)))) else (some false)))) else (some false))))))) = some r := H
   have A11 := Aside0.mk A110
   clear A110
   replace H := Option.bind_eq_some_iff.mp H
   obtain ⟨⟨t251, t252, t253, t254, t255⟩, A120, H⟩ := H
   replace H : ((laws_toPicture.f k a0_0 a0_1 a0_2 l0_3).bind fun bt259 => ((laws_toOptions.f a1_0 a1_1 a1_2 a1_3 a1_4 a1_5).bind fun bt266 => ((impl_FrameFor.f k bt259.1 bt259.2.1 bt259.2.2.1 bt259.2.2.2 bt266.1 bt266.2.1 bt266.2.2.1 bt266.2.2.2.1 bt266.2.2.2.2.1 bt266.2.2.2.2.2).bind fun bt272 => ((laws_eqFrame.f k bt272.1 bt272.2.1 bt272.2.2.1 bt272.2.2.2.1 bt272.2.2.2.2 t251 t252 t253 t254 t255).bind fun t280 => (if t280 = true then ((laws_toPicture.f k a0_0 a0_1 a0_2 l0_3).bind fun bt281 => ((laws_eqPicture.f k bt259.1 bt259.2.1 bt259.2.2.1 bt259.2.2.2 bt281.1 bt281.2.1 bt281.2.2.1 bt281.2.2.2).bind fun t287 => (if t287 = true then ((laws_markPicture.f k bt259.1 bt259.2.1 bt259.2.2.1 bt259.2.2.2 1).bind fun bt288 => (if bt288.1 < 0 then (laws_FnExactFrameFor.j0 k true a0_0 a0_1 a0_2 l0_3 a1_0 a1_1 a1_2 a1_3 a1_4 a1_5 t251 t252 t253 t254 t255 bt272.1 bt272.2.1 bt272.2.2.1 bt272.2.2.2.1 bt272.2.2.2.2) else ((laws_eqFrame.f k bt272.1 bt272.2.1 bt272.2.2.1 bt272.2.2.2.1 bt272.2.2.2.2 t251 t252 t253 t254 t255).bind fun t290 => (laws_FnExactFrameFor.j0 k (!t290) a0_0 a0_1 a0_2 l0_3 a1_0 a1_1 a1_2 a1_3 a1_4 a1_5 t251 t252 t253 t254 t255 bt272.1 bt272.2.1 bt272.2.2.1 bt272.2.2.2.1 bt272.2.2.2.2)))) else (some false)))) else (some false)))))) = some r := H
   have A12 := Aside0.mk A120
   clear A120
   replace H := Option.bind_eq_some_iff.mp H
   obtain ⟨⟨t259, t260, t261, t262⟩, A130, H⟩ := H
   replace H : ((laws_toOptions.f a1_0 a1_1 a1_2 a1_3 a1_4 a1_5).bind fun bt266 => ((impl_FrameFor.f k t259 t260 t261 t262 bt266.1 bt266.2.1 bt266.2.2.1 bt266.2.2.2.1 bt266.2.2.2.2.1 bt266.2.2.2.2.2).bind fun bt272 => ((laws_eqFrame.f k bt272.1 bt272.2.1 bt272.2.2.1 bt272.2.2.2.1 bt272.2.2.2.2 t251 t252 t253 t254 t255).bind fun t280 => (if t280 = true then ((laws_toPicture.f k a0_0 a0_1 a0_2 l0_3).bind fun bt281 => ((laws_eqPicture.f k t259 t260 t261 t262 bt281.1 bt281.2.1 bt281.2.2.1 bt281.2.2.2).bind fun t287 => (if t287 = true then ((laws_markPicture.f k t259 t260 t261 t262 1).bind fun bt288 => (if bt288.1 < 0 then (laws_FnExactFrameFor.j0 k true a0_0 a0_1 a0_2 l0_3 a1_0 a1_1 a1_2 a1_3 a1_4 a1_5 t251 t252 t253 t254 t255 bt272.1 bt272.2.1 bt272.2.2.1 bt272.2.2.2.1 bt272.2.2.2.2) else ((laws_eqFrame.f k bt272.1 bt272.2.1 bt272.2.2.1 bt272.2.2.2.1 bt272.2.2.2.2 t251 t252 t253 t254 t255).bind fun t290 => (laws_FnExactFrameFor.j0 k (!t290) a0_0 a0_1 a0_2 l0_3 a1_0 a1_1 a1_2 a1_3 a1_4 a1_5 t251 t252 t253 t254 t255 bt272.1 bt272.2.1 bt272.2.2.1 bt272.2.2.2.1 bt272.2.2.2.2)))) else (some false)))) else (some false))))) = some r := H
   have A13 := Aside0.mk A130
   clear A130
   replace H := Option.bind_eq_some_iff.mp H
   obtain ⟨⟨t266, t267, t268, t269, t270, t271⟩, A140, H⟩ := H
   replace H : ((impl_FrameFor.f k t259 t260 t261 t262 t266 t267 t268 t269 t270 t271).bind fun bt272 => ((laws_eqFrame.f k bt272.1 bt272.2.1 bt272.2.2.1 bt272.2.2.2.1 bt272.2.2.2.2 t251 t252 t253 t254 t255).bind fun t280 => (if t280 = true then ((laws_toPicture.f k a0_0 a0_1 a0_2 l0_3).bind fun bt281 => ((laws_eqPicture.f k t259 t260 t261 t262 bt281.1 bt281.2.1 bt281.2.2.1 bt281.2.2.2).bind fun t287 => (if t287 = true then ((laws_markPicture.f k t259 t260 t261 t262 1).bind fun bt288 => (if bt288.1 < 0 then (laws_FnExactFrameFor.j0 k true a0_0 a0_1 a0_2 l0_3 a1_0 a1_1 a1_2 a1_3 a1_4 a1_5 t251 t252 t253 t254 t255 bt272.1 bt272.2.1 bt272.2.2.1 bt272.2.2.2.1 bt272.2.2.2.2) else ((laws_eqFrame.f k bt272.1 bt272.2.1 bt272.2.2.1 bt272.2.2.2.1 bt272.2.2.2.2 t251 t252 t253 t254 t255).bind fun t290 => (laws_FnExactFrameFor.j0 k (!t290) a0_0 a0_1 a0_2 l0_3 a1_0 a1_1 a1_2 a1_3 a1_4 a1_5 t251 t252 t253 t254 t255 bt272.1 bt272.2.1 bt272.2.2.1 bt272.2.2.2.1 bt272.2.2.2.2)))) else (some false)))) else (some false)))) = some r := H
   have A14 := Aside0.mk A140
   clear A140
   replace H := Option.bind_eq_some_iff.mp H
   obtain ⟨⟨t272, t273, t274, t275, t276⟩, A150, H⟩ := H
   replace H : ((laws_eqFrame.f k t272 t273 t274 t275 t276 t251 t252 t253 t254 t255).bind fun t280 => (if t280 = true then ((laws_toPicture.f k a0_0 a0_1 a0_2 l0_3).bind fun bt281 => ((laws_eqPicture.f k t259 t260 t261 t262 bt281.1 bt281.2.1 bt281.2.2.1 bt281.2.2.2).bind fun t287 => (if t287 = true then ((laws_markPicture.f k t259 t260 t261 t262 1).bind fun bt288 => (if bt288.1 < 0 then (laws_FnExactFrameFor.j0 k true a0_0 a0_1 a0_2 l0_3 a1_0 a1_1 a1_2 a1_3 a1_4 a1_5 t251 t252 t253 t254 t255 t272 t273 t274 t275 t276) else ((laws_eqFrame.f k t272 t273 t274 t275 t276 t251 t252 t253 t254 t255).bind fun t290 => (laws_FnExactFrameFor.j0 k (!t290) a0_0 a0_1 a0_2 l0_3 a1_0 a1_1 a1_2 a1_3 a1_4 a1_5 t251 t252 t253 t254 t255 t272 t273 t274 t275 t276)))) else (some false)))) else (some false))) = some r := H
   have A15 := Aside0.mk A150
   clear A150
   replace H := Option.bind_eq_some_iff.mp H
   obtain ⟨t280, A160, H⟩ := H
   replace H : (if t280 = true then ((laws_toPicture.f k a0_0 a0_1 a0_2 l0_3).bind fun bt281 => ((laws_eqPicture.f k t259 t260 t261 t262 bt281.1 bt281.2.1 bt281.2.2.1 bt281.2.2.2).bind fun t287 => (if t287 = true then ((laws_markPicture.f k t259 t260 t261 t262 1).bind fun bt288 => (if bt288.1 < 0 then (laws_FnExactFrameFor.j0 k true a0_0 a0_1 a0_2 l0_3 a1_0 a1_1 a1_2 a1_3 a1_4 a1_5 t251 t252 t253 t254 t255 t272 t273 t274 t275 t276) else ((laws_eqFrame.f k t272 t273 t274 t275 t276 t251 t252 t253 t254 t255).bind fun t290 => (laws_FnExactFrameFor.j0 k (!t290) a0_0 a0_1 a0_2 l0_3 a1_0 a1_1 a1_2 a1_3 a1_4 a1_5 t251 t252 t253 t254 t255 t272 t273 t274 t275 t276)))) else (some false)))) else (some false)) = some r := H
   have A16 := Aside0.mk A160
   clear A160
   by_cases c17 : t280 = true
   · subst c17
     have H1 : ((laws_toPicture.f k a0_0 a0_1 a0_2 l0_3).bind fun bt281 => ((laws_eqPicture.f k t259 t260 t261 t262 bt281.1 bt281.2.1 bt281.2.2.1 bt281.2.2.2).bind fun t287 => (if t287 = true then ((laws_markPicture.f k t259 t260 t261 t262 1).bind fun bt288 => (if bt288.1 < 0 then (laws_FnExactFrameFor.j0 k true a0_0 a0_1 a0_2 l0_3 a1_0 a1_1 a1_2 a1_3 a1_4 a1_5 t251 t252 t253 t254 t255 t272 t273 t274 t275 t276) else ((laws_eqFrame.f k t272 t273 t274 t275 t276 t251 t252 t253 t254 t255).bind fun t290 => (laws_FnExactFrameFor.j0 k (!t290) a0_0 a0_1 a0_2 l0_3 a1_0 a1_1 a1_2 a1_3 a1_4 a1_5 t251 t252 t253 t254 t255 t272 t273 t274 t275 t276)))) else (some false)))) = some r := by rw [if_pos rfl] at H; exact H
     clear H
     have H := H1
     clear H1
     replace H := Option.bind_eq_some_iff.mp H
     obtain ⟨⟨t281, t282, t283, t284⟩, A180, H⟩ := H
     replace H : ((laws_eqPicture.f k t259 t260 t261 t262 t281 t282 t283 t284).bind fun t287 => (if t287 = true then ((laws_markPicture.f k t259 t260 t261 t262 1).bind fun bt288 => (if bt288.1 < 0 then (laws_FnExactFrameFor.j0 k true a0_0 a0_1 a0_2 l0_3 a1_0 a1_1 a1_2 a1_3 a1_4 a1_5 t251 t252 t253 t254 t255 t272 t273 t274 t275 t276) else ((laws_eqFrame.f k t272 t273 t274 t275 t276 t251 t252 t253 t254 t255).bind fun t290 => (laws_FnExactFrameFor.j0 k (!t290) a0_0 a0_1 a0_2 l0_3 a1_0 a1_1 a1_2 a1_3 a1_4 a1_5 t251 t252 t253 t254 t255 t272 t273 t274 t275 t276)))) else (some false))) = some r := H
     have A18 := Aside0.mk A180
     clear A180
     replace H := Option.bind_eq_some_iff.mp H
     obtain ⟨t287, A190, H⟩ := H
     replace H : (if t287 = true then ((laws_markPicture.f k t259 t260 t261 t262 1).bind fun bt288 => (if bt288.1 < 0 then (laws_FnExactFrameFor.j0 k true a0_0 a0_1 a0_2 l0_3 a1_0 a1_1 a1_2 a1_3 a1_4 a1_5 t251 t252 t253 t254 t255 t272 t273 t274 t275 t276) else ((laws_eqFrame.f k t272 t273 t274 t275 t276 t251 t252 t253 t254 t255).bind fun t290 => (laws_FnExactFrameFor.j0 k (!t290) a0_0 a0_1 a0_2 l0_3 a1_0 a1_1 a1_2 a1_3 a1_4 a1_5 t251 t252 t253 t254 t255 t272 t273 t274 t275 t276)))) else (some false)) = some r := H
     have A19 := Aside0.mk A190
     clear A190
     by_cases c20 : t287 = true
     · subst c20
       have H1 : ((laws_markPicture.f k t259 t260 t261 t262 1).bind fun bt288 => (if bt288.1 < 0 then (laws_FnExactFrameFor.j0 k true a0_0 a0_1 a0_2 l0_3 a1_0 a1_1 a1_2 a1_3 a1_4 a1_5 t251 t252 t253 t254 t255 t272 t273 t274 t275 t276) else ((laws_eqFrame.f k t272 t273 t274 t275 t276 t251 t252 t253 t254 t255).bind fun t290 => (laws_FnExactFrameFor.j0 k (!t290) a0_0 a0_1 a0_2 l0_3 a1_0 a1_1 a1_2 a1_3 a1_4 a1_5 t251 t252 t253 t254 t255 t272 t273 t274 t275 t276)))) = some r := by rw [if_pos rfl] at H; exact H
       clear H
       have H := H1
       clear H1
       replace H := Option.bind_eq_some_iff.mp H
       obtain ⟨⟨t288, t289⟩, A210, H⟩ := H
       replace H : (if t288 < 0 then (laws_FnExactFrameFor.j0 k true a0_0 a0_1 a0_2 l0_3 a1_0 a1_1 a1_2 a1_3 a1_4 a1_5 t251 t252 t253 t254 t255 t272 t273 t274 t275 t276) else ((laws_eqFrame.f k t272 t273 t274 t275 t276 t251 t252 t253 t254 t255).bind fun t290 => (laws_FnExactFrameFor.j0 k (!t290) a0_0 a0_1 a0_2 l0_3 a1_0 a1_1 a1_2 a1_3 a1_4 a1_5 t251 t252 t253 t254 t255 t272 t273 t274 t275 t276))) = some r := H
       have A21 := Aside0.mk A210
       clear A210
       have HC22 := Aside0.mk H
       clear H
       go_enter Try.func3, Try.ntmps3
       try go_wp2_with (first | ((with_reducible refine gate_dst (N := 2) rfl ?_); refine box_event ?hg (N := 2) ?hd (cs := #[.int .i64 a0_0, .int .i64 a0_1, .int .i64 a0_2, .slice A0_3 l0_3.length c0_3]) (t := 24) ?hr ?_; (case hd => rfl); (case hg => rfl); (case hr => first | (go_simp; done) | (go_simp; rfl)); intro gb236 hg w23 hbox hb; have n0_ := m0 (below_step (by repeat (first | (with_reducible first | exact HB.out | apply below_alloc | apply pw_below_drewN | apply below_drew1) | exact HB.out)) hb); have n1_ := m0 (hbox); have n2_ := m0 ((by rw [hg]; exact (below_size (by repeat (first | (with_reducible first | exact HB.out | apply below_alloc | apply pw_below_drewN | apply below_drew1) | exact HB.out))) : w.heap.size ≤ gb236)); have n3_ := m0 ((by rw [hg]; exact (below_size (by repeat (first | (with_reducible first | exact HB.out | apply below_alloc | apply pw_below_drewN | apply below_drew1) | exact HB.out))) : w.heap.size ≤ gb236)); clear HB; have HB := n0_; have BK236 := n1_; have GW236 := n2_; have GE236 := n3_; clear n0_ n1_ n2_ n3_; clear hb hbox hg) | ((with_reducible refine gate_dst (N := 3) rfl ?_); refine box_event ?hg (N := 3) ?hd (cs := #[.int .i64 a1_0, .int .i64 a1_1, .int .i64 a1_2, .int .i64 a1_3, .bool a1_4, .bool a1_5]) (t := 26) ?hr ?_; (case hd => rfl); (case hg => rfl); (case hr => first | (go_simp; done) | (go_simp; rfl)); intro gb237 hg w24 hbox hb; have n0_ := m0 (blk_below (bkW BK236.out) hb); have n1_ := m0 (below_step (by repeat (first | (with_reducible first | exact HB.out | apply below_alloc | apply pw_below_drewN | apply below_drew1 | refine below_set ?_ GE236.out) | exact HB.out)) hb); have n2_ := m0 (hbox); have n3_ := m0 ((by rw [hg]; exact (below_size (by repeat (first | (with_reducible first | exact HB.out | apply below_alloc | apply pw_below_drewN | apply below_drew1 | refine below_set ?_ GE236.out) | exact HB.out))) : w.heap.size ≤ gb237)); have n4_ := m0 ((by rw [hg]; exact (below_size (by repeat (first | (with_reducible first | exact HB.out | apply below_alloc | apply pw_below_drewN | apply below_drew1 | refine below_set ?_ GE236.out) | exact HB.out))) : w.heap.size ≤ gb237)); have n5_ := m0 ((by rw [hg]; exact Nat.ne_of_lt (blk_lt (bkW BK236.out)) : gb236 ≠ gb237)); have n6_ := m0 ((by rw [hg]; exact Nat.ne_of_gt (blk_lt (bkW BK236.out)) : gb237 ≠ gb236)); clear BK236 HB; have BK236 := n0_; have HB := n1_; have BK237 := n2_; have GW237 := n3_; have GE237 := n4_; have NB236_237 := n5_; have NB237_236 := n6_; clear n0_ n1_ n2_ n3_ n4_ n5_ n6_; clear hb hbox hg; have hnb25 := NB236_237.out; have hnc25 := NB237_236.out; have hcz26_0 : w24.cell? ⟨gb236, 0, none⟩ = some (.int .i64 a0_0) := bc BK236.out 0; have hcz26_1 : w24.cell? ⟨gb236, 1, none⟩ = some (.int .i64 a0_1) := bc BK236.out 1; have hcz26_2 : w24.cell? ⟨gb236, 2, none⟩ = some (.int .i64 a0_2) := bc BK236.out 2; have hcz26_3 : w24.cell? ⟨gb236, 3, none⟩ = some (.slice A0_3 l0_3.length c0_3) := bc BK236.out 3; have hfz26_0 := blk_frozen BK236.out 0; have hfz26_1 := blk_frozen BK236.out 1; have hfz26_2 := blk_frozen BK236.out 2; have hfz26_3 := blk_frozen BK236.out 3) | ((with_reducible refine gate_callee (f := 6) rfl ?_); refine goesL_ (some 15) rfl rfl Try.func6 (by kernel_rfl) rfl #[.agg #[.int .i64 a0_0, .int .i64 a0_1, .int .i64 a0_2, .slice A0_3 l0_3.length c0_3], .int .i64 1048576] rfl (by (try simp only [List.map_toArray, List.map_cons, List.map_nil]); first | done | rfl | (simp only [List.length_drop, List.length_take]; rfl)) ?_; (with_reducible refine (laws_szPicture.calls k a0_0 a0_1 a0_2 _ _ l0_3 1048576 t238 _ ?side1 ?side2 A3.out).mono ?_); (case side1 => repeat (first | exact (Kd.C_below HR0_3.out HB.out) | (with_reducible refine Kd.C_alloc ?_ _) | (with_reducible refine Kd.C_drewN ?_ _) | (with_reducible refine Kd.C_drew ?_))); (case side2 => exact HC0_3.out); rintro e w27 ⟨rfl, hb⟩; refine ⟨_, rfl, ?_⟩; have n0_ := m0 (blk_below (bkW BK236.out) hb); have n1_ := m0 (blk_below (bkW BK237.out) hb); have n2_ := m0 (below_step (by repeat (first | (with_reducible exact HB.out) | apply below_alloc | apply pw_below_drewN | apply below_drew1 | refine below_set ?_ (Aside0.out (by assumption)))) hb); clear BK236 BK237 HB; have BK236 := n0_; have BK237 := n1_; have HB := n2_; clear n0_ n1_ n2_; (try clear hb); (try clear hb2); (try clear hk); (try clear hi)))
       have n0_ := m0 (blk_drew BK236.out)
       have n1_ := m0 (blk_drew BK237.out)
       have n2_ := m0 (below_drew1 HB.out)
       clear BK236 BK237 HB
       have BK236 := n0_
       have BK237 := n1_
       have HB := n2_
       clear n0_ n1_ n2_
       refine start_ (n := 7) (S := fun w' => w'.cell? ⟨gb236, 0, none⟩ = some (.int .i64 a0_0) ∧ w'.cell? ⟨gb236, 1, none⟩ = some (.int .i64 a0_1) ∧ w'.cell? ⟨gb236, 2, none⟩ = some (.int .i64 a0_2) ∧ w'.cell? ⟨gb236, 3, none⟩ = some (.slice A0_3 l0_3.length c0_3) ∧ w'.cell? ⟨gb237, 0, none⟩ = some (.int .i64 a1_0) ∧ w'.cell? ⟨gb237, 1, none⟩ = some (.int .i64 a1_1) ∧ w'.cell? ⟨gb237, 2, none⟩ = some (.int .i64 a1_2) ∧ w'.cell? ⟨gb237, 3, none⟩ = some (.int .i64 a1_3) ∧ w'.cell? ⟨gb237, 4, none⟩ = some (.bool a1_4) ∧ w'.cell? ⟨gb237, 5, none⟩ = some (.bool a1_5)) (ds := []) #[false, false, false, false, false, false, false] (by kernel_rfl) rfl rfl ⟨bc BK236.out 0, bc BK236.out 1, bc BK236.out 2, bc BK236.out 3, bc BK237.out 0, bc BK237.out 1, bc BK237.out 2, bc BK237.out 3, bc BK237.out 4, bc BK237.out 5⟩ (fun hHeld => ?_)
       generalize w27.drew = w28 at BK236 BK237 HB hHeld ⊢
       refine take_ (i := 0) (N := some 18) (v := ?_) (a' := ?_) #[true, false, false, false, false, false, false] rfl rfl (by kernel_rfl) (fun _ _ _ h => h) (Or.inl ⟨by rfl, ?_⟩) hHeld ?_ ?_
       rotate_left
       · rintro w' ⟨s0, s1, s2, s3, s4, s5, s6, s7, s8, s9⟩
         go_simp
         with_reducible rfl
       rotate_left
       · simp only [Act.put, List.setIfInBounds_toArray, List.set_cons_zero, List.set_cons_succ, i64_w, i32_w]
         rfl
       refine take_ (i := 2) (N := some 20) (v := ?_) (a' := ?_) #[true, false, true, false, false, false, false] rfl rfl (by kernel_rfl) (fun _ _ _ h => h) (Or.inl ⟨by rfl, ?_⟩) hHeld ?_ ?_
       rotate_left
       · rintro w' ⟨s0, s1, s2, s3, s4, s5, s6, s7, s8, s9⟩
         go_simp
         with_reducible rfl
       rotate_left
       · simp only [Act.put, List.setIfInBounds_toArray, List.set_cons_zero, List.set_cons_succ, i64_w, i32_w]
         rfl
       refine join_ (σ := Value × Value × Nat) 1 #[true, true, true, true, true, true, false] (fun s_ => [(19, .agg #[.int .i64 t239, .int .i64 t240, .int .i64 t241, s_.1]), (21, .agg #[.int .i64 t245, .int .i64 t246, .int .i64 t247, .int .i64 t248, .bool t249, .bool t250]), (22, .agg #[.int .i64 t251, .int .i64 t252, .int .i64 t253, .int .i64 t254, s_.2.1]), (6, .pointer (some ⟨s_.2.2, 0, none⟩))]) (fun s_ w' => (w'.cell? ⟨gb236, 0, none⟩ = some (.int .i64 a0_0) ∧ w'.cell? ⟨gb236, 1, none⟩ = some (.int .i64 a0_1) ∧ w'.cell? ⟨gb236, 2, none⟩ = some (.int .i64 a0_2) ∧ w'.cell? ⟨gb236, 3, none⟩ = some (.slice A0_3 l0_3.length c0_3) ∧ w'.cell? ⟨gb237, 0, none⟩ = some (.int .i64 a1_0) ∧ w'.cell? ⟨gb237, 1, none⟩ = some (.int .i64 a1_1) ∧ w'.cell? ⟨gb237, 2, none⟩ = some (.int .i64 a1_2) ∧ w'.cell? ⟨gb237, 3, none⟩ = some (.int .i64 a1_3) ∧ w'.cell? ⟨gb237, 4, none⟩ = some (.bool a1_4) ∧ w'.cell? ⟨gb237, 5, none⟩ = some (.bool a1_5)) ∧ (Kd.S (Kd.slice 3 (Kd.int .i64)) 41 w' w.heap.size (fun _ => True) s_.1 t242) ∧ (Kd.R k55 55 w' w.heap.size (fun _ => True) s_.2.1 t255) ∧ (w'.heap[gb236]? = some (.cells #[.int .i64 a0_0, .int .i64 a0_1, .int .i64 a0_2, .slice A0_3 l0_3.length c0_3] 24 (0, 0))) ∧ (w'.heap[gb237]? = some (.cells #[.int .i64 a1_0, .int .i64 a1_1, .int .i64 a1_2, .int .i64 a1_3, .bool a1_4, .bool a1_5] 26 (0, 0))) ∧ (w'.heap[s_.2.2]? = some (.cells #[.int .i64 0, .int .i64 0, .int .i64 0, .int .i64 0, .slice none 0 0] 30 (0, 0))) ∧ (w.heap.size ≤ s_.2.2) ∧ (w.heap.size ≤ s_.2.2) ∧ (gb236 ≠ s_.2.2) ∧ (s_.2.2 ≠ gb236) ∧ (gb237 ≠ s_.2.2) ∧ (s_.2.2 ≠ gb237) ∧ (Below w.heap.size w w')) ?_ ?_
       rotate_left
       · intro hCont
         refine two_ (i := 1) (j := 5) (Ni := some 19) (Nj := some 6) #[true, true, true, false, false, false, false] #[true, false, true, false, false, true, false] rfl rfl rfl rfl (by kernel_rfl) (by decide) (by decide) (fun K hK => ?_) (fun K hK => ?_)
         · skip
           refine goes_ Try.func8 (by kernel_rfl) rfl #[.agg #[.int .i64 a0_0, .int .i64 a0_1, .int .i64 a0_2, .slice A0_3 l0_3.length c0_3]] (by rfl) rfl rfl (by (try simp only [List.map_toArray, List.map_cons, List.map_nil]); first | done | rfl | (simp only [List.length_drop, List.length_take]; rfl)) ?_
           with_reducible refine (laws_toPicture.calls k a0_0 a0_1 a0_2 _ _ l0_3 t239 t240 t241 t242 _ ?side1 ?side2 A10.out).mono ?_
           (case side1 => repeat (first | exact (Kd.C_below HR0_3.out HB.out) | (with_reducible refine Kd.C_alloc ?_ _) | (with_reducible refine Kd.C_drewN ?_ _) | (with_reducible refine Kd.C_drew ?_)))
           (case side2 => exact HC0_3.out)
           rintro e w29 ⟨v243, rfl, ho0, hb⟩
           refine ⟨_, rfl, ?_⟩
           have n0_ := m0 (Kd.S_lower ho0 (below_size (by repeat (first | (with_reducible exact HB.out) | apply below_alloc | apply pw_below_drewN | apply below_drew1 | refine below_set ?_ (Aside0.out (by assumption))))))
           have n1_ := m0 (blk_below (bkW BK236.out) hb)
           have n2_ := m0 (blk_below (bkW BK237.out) hb)
           have n3_ := m0 (below_step (by repeat (first | (with_reducible exact HB.out) | apply below_alloc | apply pw_below_drewN | apply below_drew1 | refine below_set ?_ (Aside0.out (by assumption)))) hb)
           clear BK236 BK237 HB
           have HO244 := n0_
           have BK236 := n1_
           have BK237 := n2_
           have HB := n3_
           clear n0_ n1_ n2_ n3_
           (try clear hb)
           (try clear hb2)
           (try clear hk)
           (try clear hi)
           (try clear ho0)
           refine hK.out _ _ ⟨bc BK236.out 0, bc BK236.out 1, bc BK236.out 2, bc BK236.out 3, bc BK237.out 0, bc BK237.out 1, bc BK237.out 2, bc BK237.out 3, bc BK237.out 4, bc BK237.out 5⟩ (fun hHeld => ?_)
           clear hK K
           refine norm_ (a' := ?_) ?_ ?_
           rotate_left
           · show Act.put _ (some 19) _ = _
             simp only [Act.put, List.setIfInBounds_toArray, List.set_cons_zero, List.set_cons_succ, i64_w, i32_w]
             rfl
           refine two_ (i := 3) (j := 5) (Ni := some 21) (Nj := some 6) #[true, true, true, true, false, false, false] #[true, true, true, false, false, true, false] rfl rfl rfl rfl (by kernel_rfl) (by decide) (by decide) (fun K hK => ?_) (fun K hK => ?_)
           · skip
             refine goes_ Try.func9 (by kernel_rfl) rfl #[.agg #[.int .i64 a1_0, .int .i64 a1_1, .int .i64 a1_2, .int .i64 a1_3, .bool a1_4, .bool a1_5]] (by rfl) rfl rfl (by (try simp only [List.map_toArray, List.map_cons, List.map_nil]); first | done | rfl | (simp only [List.length_drop, List.length_take]; rfl)) ?_
             with_reducible refine (laws_toOptions.calls a1_0 a1_1 a1_2 a1_3 a1_4 a1_5 t245 t246 t247 t248 t249 t250 _ A11.out).mono ?_
             rintro e w30 ⟨rfl, hb⟩
             refine ⟨_, rfl, ?_⟩
             have n0_ := m0 (Kd.S_below (sW HO244.out) hb)
             have n1_ := m0 (blk_below (bkW BK236.out) hb)
             have n2_ := m0 (blk_below (bkW BK237.out) hb)
             have n3_ := m0 (below_step (by repeat (first | (with_reducible exact HB.out) | apply below_alloc | apply pw_below_drewN | apply below_drew1 | refine below_set ?_ (Aside0.out (by assumption)))) hb)
             clear HO244 BK236 BK237 HB
             have HO244 := n0_
             have BK236 := n1_
             have BK237 := n2_
             have HB := n3_
             clear n0_ n1_ n2_ n3_
             (try clear hb)
             (try clear hb2)
             (try clear hk)
             (try clear hi)
             obtain ⟨Ao31, co31, eo31⟩ := Kd.S_slice HO244.out
             (first | subst eo31 | (injection eo31 with f1_ f2_ f3_; have f4_ := f1_.symm; have f5_ := f3_.symm; clear f1_ f2_ f3_; subst f4_; subst f5_))
             refine hK.out _ _ ⟨bc BK236.out 0, bc BK236.out 1, bc BK236.out 2, bc BK236.out 3, bc BK237.out 0, bc BK237.out 1, bc BK237.out 2, bc BK237.out 3, bc BK237.out 4, bc BK237.out 5⟩ (fun hHeld => ?_)
             clear hK K
             refine norm_ (a' := ?_) ?_ ?_
             rotate_left
             · show Act.put _ (some 21) _ = _
               simp only [Act.put, List.setIfInBounds_toArray, List.set_cons_zero, List.set_cons_succ, i64_w, i32_w]
               rfl
             refine two_ (i := 4) (j := 5) (Ni := some 22) (Nj := some 6) #[true, true, true, true, true, false, false] #[true, true, true, true, false, true, false] rfl rfl rfl rfl (by kernel_rfl) (by decide) (by decide) (fun K hK => ?_) (fun K hK => ?_)
             · skip
               refine goes_ Try.func7 (by kernel_rfl) rfl #[.agg #[.int .i64 t239, .int .i64 t240, .int .i64 t241, .slice Ao31 t242.length co31], .agg #[.int .i64 t245, .int .i64 t246, .int .i64 t247, .int .i64 t248, .bool t249, .bool t250]] (by rfl) rfl rfl (by (try simp only [List.map_toArray, List.map_cons, List.map_nil]); first | done | rfl | (simp only [List.length_drop, List.length_take]; rfl)) ?_
               with_reducible refine (spec_FrameFor.calls k t239 t240 t241 _ _ t242 t245 t246 t247 t248 t249 t250 t251 t252 t253 t254 t255 _ ?side1 ?side2 A12.out).mono ?_
               (case side1 => repeat (first | exact (Kd.S_reads' HO244.out).2.2 | (with_reducible refine Kd.C_alloc ?_ _) | (with_reducible refine Kd.C_drewN ?_ _) | (with_reducible refine Kd.C_drew ?_)))
               (case side2 => exact (Kd.S_reads' HO244.out).2.1)
               rintro e w32 ⟨v256, rfl, ho0, hb⟩
               refine ⟨_, rfl, ?_⟩
               have n0_ := m0 (Kd.S_below (sW HO244.out) hb)
               have n1_ := m0 (Kd.R_lower ho0 (below_size (by repeat (first | (with_reducible exact HB.out) | apply below_alloc | apply pw_below_drewN | apply below_drew1 | refine below_set ?_ (Aside0.out (by assumption))))))
               have n2_ := m0 (blk_below (bkW BK236.out) hb)
               have n3_ := m0 (blk_below (bkW BK237.out) hb)
               have n4_ := m0 (below_step (by repeat (first | (with_reducible exact HB.out) | apply below_alloc | apply pw_below_drewN | apply below_drew1 | refine below_set ?_ (Aside0.out (by assumption)))) hb)
               clear HO244 BK236 BK237 HB
               have HO244 := n0_
               have HO257 := n1_
               have BK236 := n2_
               have BK237 := n3_
               have HB := n4_
               clear n0_ n1_ n2_ n3_ n4_
               (try clear hb)
               (try clear hb2)
               (try clear hk)
               (try clear hi)
               (try clear ho0)
               refine hK.out _ _ ⟨bc BK236.out 0, bc BK236.out 1, bc BK236.out 2, bc BK236.out 3, bc BK237.out 0, bc BK237.out 1, bc BK237.out 2, bc BK237.out 3, bc BK237.out 4, bc BK237.out 5⟩ (fun hHeld => ?_)
               clear hK K
               refine norm_ (a' := ?_) ?_ ?_
               rotate_left
               · show Act.put _ (some 22) _ = _
                 simp only [Act.put, List.setIfInBounds_toArray, List.set_cons_zero, List.set_cons_succ, i64_w, i32_w]
                 rfl
               refine one_ (i := 5) (N := some 6) #[true, true, true, true, true, true, false] rfl rfl (by kernel_rfl) (by decide) (fun K hK => ?_)
               refine box_step ?hg (N := 6) ?hd (cs := #[.int .i64 0, .int .i64 0, .int .i64 0, .int .i64 0, .slice none 0 0]) (t := 30) ?hr ?_; (case hd => rfl); (case hg => rfl); (case hr => first | (go_simp; done) | (go_simp; rfl))
               intro gb258 hg w33 hbox hb
               have n0_ := m0 (Kd.S_below (sW HO244.out) hb)
               have n1_ := m0 (Kd.R_below (rW HO257.out) hb)
               have n2_ := m0 (blk_below (bkW BK236.out) hb)
               have n3_ := m0 (blk_below (bkW BK237.out) hb)
               have n4_ := m0 (below_step (by repeat (first | (with_reducible exact HB.out) | apply below_alloc | apply pw_below_drewN | apply below_drew1 | refine below_set ?_ (Aside0.out (by assumption)))) hb)
               have n5_ := m0 (hbox)
               have n6_ := m0 ((by rw [hg]; exact (below_size (by repeat (first | (with_reducible exact HB.out) | apply below_alloc | apply pw_below_drewN | apply below_drew1 | refine below_set ?_ (Aside0.out (by assumption))))) : w.heap.size ≤ gb258))
               have n7_ := m0 ((by rw [hg]; exact (below_size (by repeat (first | (with_reducible exact HB.out) | apply below_alloc | apply pw_below_drewN | apply below_drew1 | refine below_set ?_ (Aside0.out (by assumption))))) : w.heap.size ≤ gb258))
               have n8_ := m0 ((by rw [hg]; exact Nat.ne_of_lt (blk_lt (bkW BK236.out)) : gb236 ≠ gb258))
               have n9_ := m0 ((by rw [hg]; exact Nat.ne_of_gt (blk_lt (bkW BK236.out)) : gb258 ≠ gb236))
               have n10_ := m0 ((by rw [hg]; exact Nat.ne_of_lt (blk_lt (bkW BK237.out)) : gb237 ≠ gb258))
               have n11_ := m0 ((by rw [hg]; exact Nat.ne_of_gt (blk_lt (bkW BK237.out)) : gb258 ≠ gb237))
               clear HO244 HO257 BK236 BK237 HB
               have HO244 := n0_
               have HO257 := n1_
               have BK236 := n2_
               have BK237 := n3_
               have HB := n4_
               have BK258 := n5_
               have GW258 := n6_
               have GE258 := n7_
               have NB236_258 := n8_
               have NB258_236 := n9_
               have NB237_258 := n10_
               have NB258_237 := n11_
               clear n0_ n1_ n2_ n3_ n4_ n5_ n6_ n7_ n8_ n9_ n10_ n11_ hb hbox hg
               refine hK.out _ _ ⟨bc BK236.out 0, bc BK236.out 1, bc BK236.out 2, bc BK236.out 3, bc BK237.out 0, bc BK237.out 1, bc BK237.out 2, bc BK237.out 3, bc BK237.out 4, bc BK237.out 5⟩ (fun hHeld => ?_)
               clear hK K
               refine norm_ (a' := ?_) ?_ ?_
               rotate_left
               · show Act.put _ (some 6) _ = _
                 simp only [Act.put, List.setIfInBounds_toArray, List.set_cons_zero, List.set_cons_succ, i64_w, i32_w]
                 rfl
               exact norm_ (by simp only [putAll, Act.put, List.setIfInBounds_toArray, List.set_cons_zero, List.set_cons_succ]) (hCont (.slice Ao31 t242.length co31, v256, gb258) _ ⟨hHeld, (sW HO244.out), (rW HO257.out), (bkW BK236.out), (bkW BK237.out), (bkW BK258.out), GW258.out, GE258.out, NB236_258.out, NB258_236.out, NB237_258.out, NB258_237.out, (by repeat (first | (with_reducible exact HB.out) | apply below_alloc | apply pw_below_drewN | apply below_drew1 | refine below_set ?_ (Aside0.out (by assumption))))⟩)
             · skip
               refine box_step ?hg (N := 6) ?hd (cs := #[.int .i64 0, .int .i64 0, .int .i64 0, .int .i64 0, .slice none 0 0]) (t := 30) ?hr ?_; (case hd => rfl); (case hg => rfl); (case hr => first | (go_simp; done) | (go_simp; rfl))
               intro gb258 hg w31 hbox hb
               have n0_ := m0 (Kd.S_below (sW HO244.out) hb)
               have n1_ := m0 (blk_below (bkW BK236.out) hb)
               have n2_ := m0 (blk_below (bkW BK237.out) hb)
               have n3_ := m0 (below_step (by repeat (first | (with_reducible exact HB.out) | apply below_alloc | apply pw_below_drewN | apply below_drew1 | refine below_set ?_ (Aside0.out (by assumption)))) hb)
               have n4_ := m0 (hbox)
               have n5_ := m0 ((by rw [hg]; exact (below_size (by repeat (first | (with_reducible exact HB.out) | apply below_alloc | apply pw_below_drewN | apply below_drew1 | refine below_set ?_ (Aside0.out (by assumption))))) : w.heap.size ≤ gb258))
               have n6_ := m0 ((by rw [hg]; exact (below_size (by repeat (first | (with_reducible exact HB.out) | apply below_alloc | apply pw_below_drewN | apply below_drew1 | refine below_set ?_ (Aside0.out (by assumption))))) : w.heap.size ≤ gb258))
               have n7_ := m0 ((by rw [hg]; exact Nat.ne_of_lt (blk_lt (bkW BK236.out)) : gb236 ≠ gb258))
               have n8_ := m0 ((by rw [hg]; exact Nat.ne_of_gt (blk_lt (bkW BK236.out)) : gb258 ≠ gb236))
               have n9_ := m0 ((by rw [hg]; exact Nat.ne_of_lt (blk_lt (bkW BK237.out)) : gb237 ≠ gb258))
               have n10_ := m0 ((by rw [hg]; exact Nat.ne_of_gt (blk_lt (bkW BK237.out)) : gb258 ≠ gb237))
               clear HO244 BK236 BK237 HB
               have HO244 := n0_
               have BK236 := n1_
               have BK237 := n2_
               have HB := n3_
               have BK258 := n4_
               have GW258 := n5_
               have GE258 := n6_
               have NB236_258 := n7_
               have NB258_236 := n8_
               have NB237_258 := n9_
               have NB258_237 := n10_
               clear n0_ n1_ n2_ n3_ n4_ n5_ n6_ n7_ n8_ n9_ n10_ hb hbox hg
               obtain ⟨Ao32, co32, eo32⟩ := Kd.S_slice HO244.out
               (first | subst eo32 | (injection eo32 with f1_ f2_ f3_; have f4_ := f1_.symm; have f5_ := f3_.symm; clear f1_ f2_ f3_; subst f4_; subst f5_))
               refine hK.out _ _ ⟨bc BK236.out 0, bc BK236.out 1, bc BK236.out 2, bc BK236.out 3, bc BK237.out 0, bc BK237.out 1, bc BK237.out 2, bc BK237.out 3, bc BK237.out 4, bc BK237.out 5⟩ (fun hHeld => ?_)
               clear hK K
               refine norm_ (a' := ?_) ?_ ?_
               rotate_left
               · show Act.put _ (some 6) _ = _
                 simp only [Act.put, List.setIfInBounds_toArray, List.set_cons_zero, List.set_cons_succ, i64_w, i32_w]
                 rfl
               refine one_ (i := 4) (N := some 22) #[true, true, true, true, true, true, false] rfl rfl (by kernel_rfl) (by decide) (fun K hK => ?_)
               refine goes_ Try.func7 (by kernel_rfl) rfl #[.agg #[.int .i64 t239, .int .i64 t240, .int .i64 t241, .slice Ao32 t242.length co32], .agg #[.int .i64 t245, .int .i64 t246, .int .i64 t247, .int .i64 t248, .bool t249, .bool t250]] (by rfl) rfl rfl (by (try simp only [List.map_toArray, List.map_cons, List.map_nil]); first | done | rfl | (simp only [List.length_drop, List.length_take]; rfl)) ?_
               with_reducible refine (spec_FrameFor.calls k t239 t240 t241 _ _ t242 t245 t246 t247 t248 t249 t250 t251 t252 t253 t254 t255 _ ?side1 ?side2 A12.out).mono ?_
               (case side1 => repeat (first | exact (Kd.S_reads' HO244.out).2.2 | (with_reducible refine Kd.C_alloc ?_ _) | (with_reducible refine Kd.C_drewN ?_ _) | (with_reducible refine Kd.C_drew ?_)))
               (case side2 => exact (Kd.S_reads' HO244.out).2.1)
               rintro e w33 ⟨v256, rfl, ho0, hb⟩
               refine ⟨_, rfl, ?_⟩
               have n0_ := m0 (Kd.S_below (sW HO244.out) hb)
               have n1_ := m0 (Kd.R_lower ho0 (below_size (by repeat (first | (with_reducible exact HB.out) | apply below_alloc | apply pw_below_drewN | apply below_drew1 | refine below_set ?_ (Aside0.out (by assumption))))))
               have n2_ := m0 (blk_below (bkW BK236.out) hb)
               have n3_ := m0 (blk_below (bkW BK237.out) hb)
               have n4_ := m0 (blk_below (bkW BK258.out) hb)
               have n5_ := m0 (below_step (by repeat (first | (with_reducible exact HB.out) | apply below_alloc | apply pw_below_drewN | apply below_drew1 | refine below_set ?_ (Aside0.out (by assumption)))) hb)
               clear HO244 BK236 BK237 BK258 HB
               have HO244 := n0_
               have HO257 := n1_
               have BK236 := n2_
               have BK237 := n3_
               have BK258 := n4_
               have HB := n5_
               clear n0_ n1_ n2_ n3_ n4_ n5_
               (try clear hb)
               (try clear hb2)
               (try clear hk)
               (try clear hi)
               (try clear ho0)
               refine hK.out _ _ ⟨bc BK236.out 0, bc BK236.out 1, bc BK236.out 2, bc BK236.out 3, bc BK237.out 0, bc BK237.out 1, bc BK237.out 2, bc BK237.out 3, bc BK237.out 4, bc BK237.out 5⟩ (fun hHeld => ?_)
               clear hK K
               refine norm_ (a' := ?_) ?_ ?_
               rotate_left
               · show Act.put _ (some 22) _ = _
                 simp only [Act.put, List.setIfInBounds_toArray, List.set_cons_zero, List.set_cons_succ, i64_w, i32_w]
                 rfl
               exact norm_ (by simp only [putAll, Act.put, List.setIfInBounds_toArray, List.set_cons_zero, List.set_cons_succ]) (hCont (.slice Ao32 t242.length co32, v256, gb258) _ ⟨hHeld, (sW HO244.out), (rW HO257.out), (bkW BK236.out), (bkW BK237.out), (bkW BK258.out), GW258.out, GE258.out, NB236_258.out, NB258_236.out, NB237_258.out, NB258_237.out, (by repeat (first | (with_reducible exact HB.out) | apply below_alloc | apply pw_below_drewN | apply below_drew1 | refine below_set ?_ (Aside0.out (by assumption))))⟩)
           · skip
             refine box_step ?hg (N := 6) ?hd (cs := #[.int .i64 0, .int .i64 0, .int .i64 0, .int .i64 0, .slice none 0 0]) (t := 30) ?hr ?_; (case hd => rfl); (case hg => rfl); (case hr => first | (go_simp; done) | (go_simp; rfl))
             intro gb258 hg w30 hbox hb
             have n0_ := m0 (Kd.S_below (sW HO244.out) hb)
             have n1_ := m0 (blk_below (bkW BK236.out) hb)
             have n2_ := m0 (blk_below (bkW BK237.out) hb)
             have n3_ := m0 (below_step (by repeat (first | (with_reducible exact HB.out) | apply below_alloc | apply pw_below_drewN | apply below_drew1 | refine below_set ?_ (Aside0.out (by assumption)))) hb)
             have n4_ := m0 (hbox)
             have n5_ := m0 ((by rw [hg]; exact (below_size (by repeat (first | (with_reducible exact HB.out) | apply below_alloc | apply pw_below_drewN | apply below_drew1 | refine below_set ?_ (Aside0.out (by assumption))))) : w.heap.size ≤ gb258))
             have n6_ := m0 ((by rw [hg]; exact (below_size (by repeat (first | (with_reducible exact HB.out) | apply below_alloc | apply pw_below_drewN | apply below_drew1 | refine below_set ?_ (Aside0.out (by assumption))))) : w.heap.size ≤ gb258))
             have n7_ := m0 ((by rw [hg]; exact Nat.ne_of_lt (blk_lt (bkW BK236.out)) : gb236 ≠ gb258))
             have n8_ := m0 ((by rw [hg]; exact Nat.ne_of_gt (blk_lt (bkW BK236.out)) : gb258 ≠ gb236))
             have n9_ := m0 ((by rw [hg]; exact Nat.ne_of_lt (blk_lt (bkW BK237.out)) : gb237 ≠ gb258))
             have n10_ := m0 ((by rw [hg]; exact Nat.ne_of_gt (blk_lt (bkW BK237.out)) : gb258 ≠ gb237))
             clear HO244 BK236 BK237 HB
             have HO244 := n0_
             have BK236 := n1_
             have BK237 := n2_
             have HB := n3_
             have BK258 := n4_
             have GW258 := n5_
             have GE258 := n6_
             have NB236_258 := n7_
             have NB258_236 := n8_
             have NB237_258 := n9_
             have NB258_237 := n10_
             clear n0_ n1_ n2_ n3_ n4_ n5_ n6_ n7_ n8_ n9_ n10_ hb hbox hg
             refine hK.out _ _ ⟨bc BK236.out 0, bc BK236.out 1, bc BK236.out 2, bc BK236.out 3, bc BK237.out 0, bc BK237.out 1, bc BK237.out 2, bc BK237.out 3, bc BK237.out 4, bc BK237.out 5⟩ (fun hHeld => ?_)
             clear hK K
             refine norm_ (a' := ?_) ?_ ?_
             rotate_left
             · show Act.put _ (some 6) _ = _
               simp only [Act.put, List.setIfInBounds_toArray, List.set_cons_zero, List.set_cons_succ, i64_w, i32_w]
               rfl
             refine one_ (i := 3) (N := some 21) #[true, true, true, true, false, true, false] rfl rfl (by kernel_rfl) (by decide) (fun K hK => ?_)
             refine goes_ Try.func9 (by kernel_rfl) rfl #[.agg #[.int .i64 a1_0, .int .i64 a1_1, .int .i64 a1_2, .int .i64 a1_3, .bool a1_4, .bool a1_5]] (by rfl) rfl rfl (by (try simp only [List.map_toArray, List.map_cons, List.map_nil]); first | done | rfl | (simp only [List.length_drop, List.length_take]; rfl)) ?_
             with_reducible refine (laws_toOptions.calls a1_0 a1_1 a1_2 a1_3 a1_4 a1_5 t245 t246 t247 t248 t249 t250 _ A11.out).mono ?_
             rintro e w31 ⟨rfl, hb⟩
             refine ⟨_, rfl, ?_⟩
             have n0_ := m0 (Kd.S_below (sW HO244.out) hb)
             have n1_ := m0 (blk_below (bkW BK236.out) hb)
             have n2_ := m0 (blk_below (bkW BK237.out) hb)
             have n3_ := m0 (blk_below (bkW BK258.out) hb)
             have n4_ := m0 (below_step (by repeat (first | (with_reducible exact HB.out) | apply below_alloc | apply pw_below_drewN | apply below_drew1 | refine below_set ?_ (Aside0.out (by assumption)))) hb)
             clear HO244 BK236 BK237 BK258 HB
             have HO244 := n0_
             have BK236 := n1_
             have BK237 := n2_
             have BK258 := n3_
             have HB := n4_
             clear n0_ n1_ n2_ n3_ n4_
             (try clear hb)
             (try clear hb2)
             (try clear hk)
             (try clear hi)
             obtain ⟨Ao32, co32, eo32⟩ := Kd.S_slice HO244.out
             (first | subst eo32 | (injection eo32 with f1_ f2_ f3_; have f4_ := f1_.symm; have f5_ := f3_.symm; clear f1_ f2_ f3_; subst f4_; subst f5_))
             refine hK.out _ _ ⟨bc BK236.out 0, bc BK236.out 1, bc BK236.out 2, bc BK236.out 3, bc BK237.out 0, bc BK237.out 1, bc BK237.out 2, bc BK237.out 3, bc BK237.out 4, bc BK237.out 5⟩ (fun hHeld => ?_)
             clear hK K
             refine norm_ (a' := ?_) ?_ ?_
             rotate_left
             · show Act.put _ (some 21) _ = _
               simp only [Act.put, List.setIfInBounds_toArray, List.set_cons_zero, List.set_cons_succ, i64_w, i32_w]
               rfl
             refine one_ (i := 4) (N := some 22) #[true, true, true, true, true, true, false] rfl rfl (by kernel_rfl) (by decide) (fun K hK => ?_)
             refine goes_ Try.func7 (by kernel_rfl) rfl #[.agg #[.int .i64 t239, .int .i64 t240, .int .i64 t241, .slice Ao32 t242.length co32], .agg #[.int .i64 t245, .int .i64 t246, .int .i64 t247, .int .i64 t248, .bool t249, .bool t250]] (by rfl) rfl rfl (by (try simp only [List.map_toArray, List.map_cons, List.map_nil]); first | done | rfl | (simp only [List.length_drop, List.length_take]; rfl)) ?_
             with_reducible refine (spec_FrameFor.calls k t239 t240 t241 _ _ t242 t245 t246 t247 t248 t249 t250 t251 t252 t253 t254 t255 _ ?side1 ?side2 A12.out).mono ?_
             (case side1 => repeat (first | exact (Kd.S_reads' HO244.out).2.2 | (with_reducible refine Kd.C_alloc ?_ _) | (with_reducible refine Kd.C_drewN ?_ _) | (with_reducible refine Kd.C_drew ?_)))
             (case side2 => exact (Kd.S_reads' HO244.out).2.1)
             rintro e w33 ⟨v256, rfl, ho0, hb⟩
             refine ⟨_, rfl, ?_⟩
             have n0_ := m0 (Kd.S_below (sW HO244.out) hb)
             have n1_ := m0 (Kd.R_lower ho0 (below_size (by repeat (first | (with_reducible exact HB.out) | apply below_alloc | apply pw_below_drewN | apply below_drew1 | refine below_set ?_ (Aside0.out (by assumption))))))
             have n2_ := m0 (blk_below (bkW BK236.out) hb)
             have n3_ := m0 (blk_below (bkW BK237.out) hb)
             have n4_ := m0 (blk_below (bkW BK258.out) hb)
             have n5_ := m0 (below_step (by repeat (first | (with_reducible exact HB.out) | apply below_alloc | apply pw_below_drewN | apply below_drew1 | refine below_set ?_ (Aside0.out (by assumption)))) hb)
             clear HO244 BK236 BK237 BK258 HB
             have HO244 := n0_
             have HO257 := n1_
             have BK236 := n2_
             have BK237 := n3_
             have BK258 := n4_
             have HB := n5_
             clear n0_ n1_ n2_ n3_ n4_ n5_
             (try clear hb)
             (try clear hb2)
             (try clear hk)
             (try clear hi)
             (try clear ho0)
             refine hK.out _ _ ⟨bc BK236.out 0, bc BK236.out 1, bc BK236.out 2, bc BK236.out 3, bc BK237.out 0, bc BK237.out 1, bc BK237.out 2, bc BK237.out 3, bc BK237.out 4, bc BK237.out 5⟩ (fun hHeld => ?_)
             clear hK K
             refine norm_ (a' := ?_) ?_ ?_
             rotate_left
             · show Act.put _ (some 22) _ = _
               simp only [Act.put, List.setIfInBounds_toArray, List.set_cons_zero, List.set_cons_succ, i64_w, i32_w]
               rfl
             exact norm_ (by simp only [putAll, Act.put, List.setIfInBounds_toArray, List.set_cons_zero, List.set_cons_succ]) (hCont (.slice Ao32 t242.length co32, v256, gb258) _ ⟨hHeld, (sW HO244.out), (rW HO257.out), (bkW BK236.out), (bkW BK237.out), (bkW BK258.out), GW258.out, GE258.out, NB236_258.out, NB258_236.out, NB237_258.out, NB258_237.out, (by repeat (first | (with_reducible exact HB.out) | apply below_alloc | apply pw_below_drewN | apply below_drew1 | refine below_set ?_ (Aside0.out (by assumption))))⟩)
         · skip
           refine box_step ?hg (N := 6) ?hd (cs := #[.int .i64 0, .int .i64 0, .int .i64 0, .int .i64 0, .slice none 0 0]) (t := 30) ?hr ?_; (case hd => rfl); (case hg => rfl); (case hr => first | (go_simp; done) | (go_simp; rfl))
           intro gb258 hg w29 hbox hb
           have n0_ := m0 (blk_below (bkW BK236.out) hb)
           have n1_ := m0 (blk_below (bkW BK237.out) hb)
           have n2_ := m0 (below_step (by repeat (first | (with_reducible exact HB.out) | apply below_alloc | apply pw_below_drewN | apply below_drew1 | refine below_set ?_ (Aside0.out (by assumption)))) hb)
           have n3_ := m0 (hbox)
           have n4_ := m0 ((by rw [hg]; exact (below_size (by repeat (first | (with_reducible exact HB.out) | apply below_alloc | apply pw_below_drewN | apply below_drew1 | refine below_set ?_ (Aside0.out (by assumption))))) : w.heap.size ≤ gb258))
           have n5_ := m0 ((by rw [hg]; exact (below_size (by repeat (first | (with_reducible exact HB.out) | apply below_alloc | apply pw_below_drewN | apply below_drew1 | refine below_set ?_ (Aside0.out (by assumption))))) : w.heap.size ≤ gb258))
           have n6_ := m0 ((by rw [hg]; exact Nat.ne_of_lt (blk_lt (bkW BK236.out)) : gb236 ≠ gb258))
           have n7_ := m0 ((by rw [hg]; exact Nat.ne_of_gt (blk_lt (bkW BK236.out)) : gb258 ≠ gb236))
           have n8_ := m0 ((by rw [hg]; exact Nat.ne_of_lt (blk_lt (bkW BK237.out)) : gb237 ≠ gb258))
           have n9_ := m0 ((by rw [hg]; exact Nat.ne_of_gt (blk_lt (bkW BK237.out)) : gb258 ≠ gb237))
           clear BK236 BK237 HB
           have BK236 := n0_
           have BK237 := n1_
           have HB := n2_
           have BK258 := n3_
           have GW258 := n4_
           have GE258 := n5_
           have NB236_258 := n6_
           have NB258_236 := n7_
           have NB237_258 := n8_
           have NB258_237 := n9_
           clear n0_ n1_ n2_ n3_ n4_ n5_ n6_ n7_ n8_ n9_ hb hbox hg
           refine hK.out _ _ ⟨bc BK236.out 0, bc BK236.out 1, bc BK236.out 2, bc BK236.out 3, bc BK237.out 0, bc BK237.out 1, bc BK237.out 2, bc BK237.out 3, bc BK237.out 4, bc BK237.out 5⟩ (fun hHeld => ?_)
           clear hK K
           refine norm_ (a' := ?_) ?_ ?_
           rotate_left
           · show Act.put _ (some 6) _ = _
             simp only [Act.put, List.setIfInBounds_toArray, List.set_cons_zero, List.set_cons_succ, i64_w, i32_w]
             rfl
           refine one_ (i := 1) (N := some 19) #[true, true, true, false, false, true, false] rfl rfl (by kernel_rfl) (by decide) (fun K hK => ?_)
           refine goes_ Try.func8 (by kernel_rfl) rfl #[.agg #[.int .i64 a0_0, .int .i64 a0_1, .int .i64 a0_2, .slice A0_3 l0_3.length c0_3]] (by rfl) rfl rfl (by (try simp only [List.map_toArray, List.map_cons, List.map_nil]); first | done | rfl | (simp only [List.length_drop, List.length_take]; rfl)) ?_
           with_reducible refine (laws_toPicture.calls k a0_0 a0_1 a0_2 _ _ l0_3 t239 t240 t241 t242 _ ?side1 ?side2 A10.out).mono ?_
           (case side1 => repeat (first | exact (Kd.C_below HR0_3.out HB.out) | (with_reducible refine Kd.C_alloc ?_ _) | (with_reducible refine Kd.C_drewN ?_ _) | (with_reducible refine Kd.C_drew ?_)))
           (case side2 => exact HC0_3.out)
           rintro e w30 ⟨v243, rfl, ho0, hb⟩
           refine ⟨_, rfl, ?_⟩
           have n0_ := m0 (Kd.S_lower ho0 (below_size (by repeat (first | (with_reducible exact HB.out) | apply below_alloc | apply pw_below_drewN | apply below_drew1 | refine below_set ?_ (Aside0.out (by assumption))))))
           have n1_ := m0 (blk_below (bkW BK236.out) hb)
           have n2_ := m0 (blk_below (bkW BK237.out) hb)
           have n3_ := m0 (blk_below (bkW BK258.out) hb)
           have n4_ := m0 (below_step (by repeat (first | (with_reducible exact HB.out) | apply below_alloc | apply pw_below_drewN | apply below_drew1 | refine below_set ?_ (Aside0.out (by assumption)))) hb)
           clear BK236 BK237 BK258 HB
           have HO244 := n0_
           have BK236 := n1_
           have BK237 := n2_
           have BK258 := n3_
           have HB := n4_
           clear n0_ n1_ n2_ n3_ n4_
           (try clear hb)
           (try clear hb2)
           (try clear hk)
           (try clear hi)
           (try clear ho0)
           refine hK.out _ _ ⟨bc BK236.out 0, bc BK236.out 1, bc BK236.out 2, bc BK236.out 3, bc BK237.out 0, bc BK237.out 1, bc BK237.out 2, bc BK237.out 3, bc BK237.out 4, bc BK237.out 5⟩ (fun hHeld => ?_)
           clear hK K
           refine norm_ (a' := ?_) ?_ ?_
           rotate_left
           · show Act.put _ (some 19) _ = _
             simp only [Act.put, List.setIfInBounds_toArray, List.set_cons_zero, List.set_cons_succ, i64_w, i32_w]
             rfl
           refine one_ (i := 3) (N := some 21) #[true, true, true, true, false, true, false] rfl rfl (by kernel_rfl) (by decide) (fun K hK => ?_)
           refine goes_ Try.func9 (by kernel_rfl) rfl #[.agg #[.int .i64 a1_0, .int .i64 a1_1, .int .i64 a1_2, .int .i64 a1_3, .bool a1_4, .bool a1_5]] (by rfl) rfl rfl (by (try simp only [List.map_toArray, List.map_cons, List.map_nil]); first | done | rfl | (simp only [List.length_drop, List.length_take]; rfl)) ?_
           with_reducible refine (laws_toOptions.calls a1_0 a1_1 a1_2 a1_3 a1_4 a1_5 t245 t246 t247 t248 t249 t250 _ A11.out).mono ?_
           rintro e w31 ⟨rfl, hb⟩
           refine ⟨_, rfl, ?_⟩
           have n0_ := m0 (Kd.S_below (sW HO244.out) hb)
           have n1_ := m0 (blk_below (bkW BK236.out) hb)
           have n2_ := m0 (blk_below (bkW BK237.out) hb)
           have n3_ := m0 (blk_below (bkW BK258.out) hb)
           have n4_ := m0 (below_step (by repeat (first | (with_reducible exact HB.out) | apply below_alloc | apply pw_below_drewN | apply below_drew1 | refine below_set ?_ (Aside0.out (by assumption)))) hb)
           clear HO244 BK236 BK237 BK258 HB
           have HO244 := n0_
           have BK236 := n1_
           have BK237 := n2_
           have BK258 := n3_
           have HB := n4_
           clear n0_ n1_ n2_ n3_ n4_
           (try clear hb)
           (try clear hb2)
           (try clear hk)
           (try clear hi)
           obtain ⟨Ao32, co32, eo32⟩ := Kd.S_slice HO244.out
           (first | subst eo32 | (injection eo32 with f1_ f2_ f3_; have f4_ := f1_.symm; have f5_ := f3_.symm; clear f1_ f2_ f3_; subst f4_; subst f5_))
           refine hK.out _ _ ⟨bc BK236.out 0, bc BK236.out 1, bc BK236.out 2, bc BK236.out 3, bc BK237.out 0, bc BK237.out 1, bc BK237.out 2, bc BK237.out 3, bc BK237.out 4, bc BK237.out 5⟩ (fun hHeld => ?_)
           clear hK K
           refine norm_ (a' := ?_) ?_ ?_
           rotate_left
           · show Act.put _ (some 21) _ = _
             simp only [Act.put, List.setIfInBounds_toArray, List.set_cons_zero, List.set_cons_succ, i64_w, i32_w]
             rfl
           refine one_ (i := 4) (N := some 22) #[true, true, true, true, true, true, false] rfl rfl (by kernel_rfl) (by decide) (fun K hK => ?_)
           refine goes_ Try.func7 (by kernel_rfl) rfl #[.agg #[.int .i64 t239, .int .i64 t240, .int .i64 t241, .slice Ao32 t242.length co32], .agg #[.int .i64 t245, .int .i64 t246, .int .i64 t247, .int .i64 t248, .bool t249, .bool t250]] (by rfl) rfl rfl (by (try simp only [List.map_toArray, List.map_cons, List.map_nil]); first | done | rfl | (simp only [List.length_drop, List.length_take]; rfl)) ?_
           with_reducible refine (spec_FrameFor.calls k t239 t240 t241 _ _ t242 t245 t246 t247 t248 t249 t250 t251 t252 t253 t254 t255 _ ?side1 ?side2 A12.out).mono ?_
           (case side1 => repeat (first | exact (Kd.S_reads' HO244.out).2.2 | (with_reducible refine Kd.C_alloc ?_ _) | (with_reducible refine Kd.C_drewN ?_ _) | (with_reducible refine Kd.C_drew ?_)))
           (case side2 => exact (Kd.S_reads' HO244.out).2.1)
           rintro e w33 ⟨v256, rfl, ho0, hb⟩
           refine ⟨_, rfl, ?_⟩
           have n0_ := m0 (Kd.S_below (sW HO244.out) hb)
           have n1_ := m0 (Kd.R_lower ho0 (below_size (by repeat (first | (with_reducible exact HB.out) | apply below_alloc | apply pw_below_drewN | apply below_drew1 | refine below_set ?_ (Aside0.out (by assumption))))))
           have n2_ := m0 (blk_below (bkW BK236.out) hb)
           have n3_ := m0 (blk_below (bkW BK237.out) hb)
           have n4_ := m0 (blk_below (bkW BK258.out) hb)
           have n5_ := m0 (below_step (by repeat (first | (with_reducible exact HB.out) | apply below_alloc | apply pw_below_drewN | apply below_drew1 | refine below_set ?_ (Aside0.out (by assumption)))) hb)
           clear HO244 BK236 BK237 BK258 HB
           have HO244 := n0_
           have HO257 := n1_
           have BK236 := n2_
           have BK237 := n3_
           have BK258 := n4_
           have HB := n5_
           clear n0_ n1_ n2_ n3_ n4_ n5_
           (try clear hb)
           (try clear hb2)
           (try clear hk)
           (try clear hi)
           (try clear ho0)
           refine hK.out _ _ ⟨bc BK236.out 0, bc BK236.out 1, bc BK236.out 2, bc BK236.out 3, bc BK237.out 0, bc BK237.out 1, bc BK237.out 2, bc BK237.out 3, bc BK237.out 4, bc BK237.out 5⟩ (fun hHeld => ?_)
           clear hK K
           refine norm_ (a' := ?_) ?_ ?_
           rotate_left
           · show Act.put _ (some 22) _ = _
             simp only [Act.put, List.setIfInBounds_toArray, List.set_cons_zero, List.set_cons_succ, i64_w, i32_w]
             rfl
           exact norm_ (by simp only [putAll, Act.put, List.setIfInBounds_toArray, List.set_cons_zero, List.set_cons_succ]) (hCont (.slice Ao32 t242.length co32, v256, gb258) _ ⟨hHeld, (sW HO244.out), (rW HO257.out), (bkW BK236.out), (bkW BK237.out), (bkW BK258.out), GW258.out, GE258.out, NB236_258.out, NB258_236.out, NB237_258.out, NB258_237.out, (by repeat (first | (with_reducible exact HB.out) | apply below_alloc | apply pw_below_drewN | apply below_drew1 | refine below_set ?_ (Aside0.out (by assumption))))⟩)
       rintro ⟨v243, v256, gb258⟩ w34 ⟨hS_, h0_, h1_, h2_, h3_, h4_, h5_, h6_, h7_, h8_, h9_, h10_, h11_⟩
       have n0_ : Aside0 (Kd.S (Kd.slice 3 (Kd.int .i64)) 41 w34 w.heap.size (fun _ => True) v243 t242) := ⟨h0_⟩
       have n1_ : Aside0 (Kd.R k55 55 w34 w.heap.size (fun _ => True) v256 t255) := ⟨h1_⟩
       have n2_ : Aside0 (w34.heap[gb236]? = some (.cells #[.int .i64 a0_0, .int .i64 a0_1, .int .i64 a0_2, .slice A0_3 l0_3.length c0_3] 24 (0, 0))) := ⟨h2_⟩
       have n3_ : Aside0 (w34.heap[gb237]? = some (.cells #[.int .i64 a1_0, .int .i64 a1_1, .int .i64 a1_2, .int .i64 a1_3, .bool a1_4, .bool a1_5] 26 (0, 0))) := ⟨h3_⟩
       have n4_ : Aside0 (w34.heap[gb258]? = some (.cells #[.int .i64 0, .int .i64 0, .int .i64 0, .int .i64 0, .slice none 0 0] 30 (0, 0))) := ⟨h4_⟩
       have n5_ : Aside0 (w.heap.size ≤ gb258) := ⟨h5_⟩
       have n6_ : Aside0 (w.heap.size ≤ gb258) := ⟨h6_⟩
       have n7_ : Aside0 (gb236 ≠ gb258) := ⟨h7_⟩
       have n8_ : Aside0 (gb258 ≠ gb236) := ⟨h8_⟩
       have n9_ : Aside0 (gb237 ≠ gb258) := ⟨h9_⟩
       have n10_ : Aside0 (gb258 ≠ gb237) := ⟨h10_⟩
       have n11_ : Aside0 (Below w.heap.size w w34) := ⟨h11_⟩
       clear BK236 BK237 HB h0_ h1_ h2_ h3_ h4_ h5_ h6_ h7_ h8_ h9_ h10_ h11_
       have HO244 := n0_
       have HO257 := n1_
       have BK236 := n2_
       have BK237 := n3_
       have BK258 := n4_
       have GW258 := n5_
       have GE258 := n6_
       have NB236_258 := n7_
       have NB258_236 := n8_
       have NB237_258 := n9_
       have NB258_237 := n10_
       have HB := n11_
       clear n0_ n1_ n2_ n3_ n4_ n5_ n6_ n7_ n8_ n9_ n10_ n11_
       have hHeld : w34.cell? ⟨gb236, 0, none⟩ = some (.int .i64 a0_0) ∧ w34.cell? ⟨gb236, 1, none⟩ = some (.int .i64 a0_1) ∧ w34.cell? ⟨gb236, 2, none⟩ = some (.int .i64 a0_2) ∧ w34.cell? ⟨gb236, 3, none⟩ = some (.slice A0_3 l0_3.length c0_3) ∧ w34.cell? ⟨gb237, 0, none⟩ = some (.int .i64 a1_0) ∧ w34.cell? ⟨gb237, 1, none⟩ = some (.int .i64 a1_1) ∧ w34.cell? ⟨gb237, 2, none⟩ = some (.int .i64 a1_2) ∧ w34.cell? ⟨gb237, 3, none⟩ = some (.int .i64 a1_3) ∧ w34.cell? ⟨gb237, 4, none⟩ = some (.bool a1_4) ∧ w34.cell? ⟨gb237, 5, none⟩ = some (.bool a1_5) := hS_
       obtain ⟨Ao39, co39, eo39⟩ := Kd.R_slice HO257.out
       (first | subst eo39 | (injection eo39 with f1_ f2_ f3_; have f4_ := f1_.symm; have f5_ := f3_.symm; clear f1_ f2_ f3_; subst f4_; subst f5_))
       refine norm_ (a' := ?_) ?_ ?_
       rotate_left
       · simp only [putAll, Act.put, List.setIfInBounds_toArray, List.set_cons_zero, List.set_cons_succ]
         rfl
       refine one_ (i := 6) (N := none) #[true, true, true, true, true, true, true] rfl rfl (by kernel_rfl) (by decide) (fun K hK => ?_)
       have hs35 : w34.cell? ⟨gb258, 0, none⟩ = some (.int .i64 0) := bc BK258.out 0
       have hfs35 := blk_frozen BK258.out 0
       have hns35_0 := NB236_258.out
       have hns35_1 := NB237_258.out
       have hms35_0 := NB258_236.out
       have hms35_1 := NB258_237.out
       have hs36 : w34.cell? ⟨gb258, 1, none⟩ = some (.int .i64 0) := bc BK258.out 1
       have hfs36 := blk_frozen BK258.out 1
       have hns36_0 := NB236_258.out
       have hns36_1 := NB237_258.out
       have hms36_0 := NB258_236.out
       have hms36_1 := NB258_237.out
       have hs37 : w34.cell? ⟨gb258, 2, none⟩ = some (.int .i64 0) := bc BK258.out 2
       have hfs37 := blk_frozen BK258.out 2
       have hns37_0 := NB236_258.out
       have hns37_1 := NB237_258.out
       have hms37_0 := NB258_236.out
       have hms37_1 := NB258_237.out
       have hs38 : w34.cell? ⟨gb258, 3, none⟩ = some (.int .i64 0) := bc BK258.out 3
       have hfs38 := blk_frozen BK258.out 3
       have hns38_0 := NB236_258.out
       have hns38_1 := NB237_258.out
       have hms38_0 := NB258_236.out
       have hms38_1 := NB258_237.out
       have hs40 : w34.cell? ⟨gb258, 4, none⟩ = some (.slice none 0 0) := bc BK258.out 4
       have hfs40 := blk_frozen BK258.out 4
       have hns40_0 := NB236_258.out
       have hns40_1 := NB237_258.out
       have hms40_0 := NB258_236.out
       have hms40_1 := NB258_237.out
       refine skip_ (w1 := ?_) (by rfl) rfl ?_ ?_
       rotate_left
       · go_simp
         rfl
       refine hK.out _ _ ⟨((cell_far (p := ⟨gb258, _, none⟩) NB236_258.out _).trans (((cell_far (p := ⟨gb258, _, none⟩) NB236_258.out _).trans (((cell_far (p := ⟨gb258, _, none⟩) NB236_258.out _).trans (((cell_far (p := ⟨gb258, _, none⟩) NB236_258.out _).trans (((cell_far (p := ⟨gb258, _, none⟩) NB236_258.out _).trans (hHeld.1)))))))))), ((cell_far (p := ⟨gb258, _, none⟩) NB236_258.out _).trans (((cell_far (p := ⟨gb258, _, none⟩) NB236_258.out _).trans (((cell_far (p := ⟨gb258, _, none⟩) NB236_258.out _).trans (((cell_far (p := ⟨gb258, _, none⟩) NB236_258.out _).trans (((cell_far (p := ⟨gb258, _, none⟩) NB236_258.out _).trans (hHeld.2.1)))))))))), ((cell_far (p := ⟨gb258, _, none⟩) NB236_258.out _).trans (((cell_far (p := ⟨gb258, _, none⟩) NB236_258.out _).trans (((cell_far (p := ⟨gb258, _, none⟩) NB236_258.out _).trans (((cell_far (p := ⟨gb258, _, none⟩) NB236_258.out _).trans (((cell_far (p := ⟨gb258, _, none⟩) NB236_258.out _).trans (hHeld.2.2.1)))))))))), ((cell_far (p := ⟨gb258, _, none⟩) NB236_258.out _).trans (((cell_far (p := ⟨gb258, _, none⟩) NB236_258.out _).trans (((cell_far (p := ⟨gb258, _, none⟩) NB236_258.out _).trans (((cell_far (p := ⟨gb258, _, none⟩) NB236_258.out _).trans (((cell_far (p := ⟨gb258, _, none⟩) NB236_258.out _).trans (hHeld.2.2.2.1)))))))))), ((cell_far (p := ⟨gb258, _, none⟩) NB237_258.out _).trans (((cell_far (p := ⟨gb258, _, none⟩) NB237_258.out _).trans (((cell_far (p := ⟨gb258, _, none⟩) NB237_258.out _).trans (((cell_far (p := ⟨gb258, _, none⟩) NB237_258.out _).trans (((cell_far (p := ⟨gb258, _, none⟩) NB237_258.out _).trans (hHeld.2.2.2.2.1)))))))))), ((cell_far (p := ⟨gb258, _, none⟩) NB237_258.out _).trans (((cell_far (p := ⟨gb258, _, none⟩) NB237_258.out _).trans (((cell_far (p := ⟨gb258, _, none⟩) NB237_258.out _).trans (((cell_far (p := ⟨gb258, _, none⟩) NB237_258.out _).trans (((cell_far (p := ⟨gb258, _, none⟩) NB237_258.out _).trans (hHeld.2.2.2.2.2.1)))))))))), ((cell_far (p := ⟨gb258, _, none⟩) NB237_258.out _).trans (((cell_far (p := ⟨gb258, _, none⟩) NB237_258.out _).trans (((cell_far (p := ⟨gb258, _, none⟩) NB237_258.out _).trans (((cell_far (p := ⟨gb258, _, none⟩) NB237_258.out _).trans (((cell_far (p := ⟨gb258, _, none⟩) NB237_258.out _).trans (hHeld.2.2.2.2.2.2.1)))))))))), ((cell_far (p := ⟨gb258, _, none⟩) NB237_258.out _).trans (((cell_far (p := ⟨gb258, _, none⟩) NB237_258.out _).trans (((cell_far (p := ⟨gb258, _, none⟩) NB237_258.out _).trans (((cell_far (p := ⟨gb258, _, none⟩) NB237_258.out _).trans (((cell_far (p := ⟨gb258, _, none⟩) NB237_258.out _).trans (hHeld.2.2.2.2.2.2.2.1)))))))))), ((cell_far (p := ⟨gb258, _, none⟩) NB237_258.out _).trans (((cell_far (p := ⟨gb258, _, none⟩) NB237_258.out _).trans (((cell_far (p := ⟨gb258, _, none⟩) NB237_258.out _).trans (((cell_far (p := ⟨gb258, _, none⟩) NB237_258.out _).trans (((cell_far (p := ⟨gb258, _, none⟩) NB237_258.out _).trans (hHeld.2.2.2.2.2.2.2.2.1)))))))))), ((cell_far (p := ⟨gb258, _, none⟩) NB237_258.out _).trans (((cell_far (p := ⟨gb258, _, none⟩) NB237_258.out _).trans (((cell_far (p := ⟨gb258, _, none⟩) NB237_258.out _).trans (((cell_far (p := ⟨gb258, _, none⟩) NB237_258.out _).trans (((cell_far (p := ⟨gb258, _, none⟩) NB237_258.out _).trans (hHeld.2.2.2.2.2.2.2.2.2))))))))))⟩ (fun hHeld => ?_)
       clear hK K
       refine done_ (by kernel_rfl) ?_
       have hnb41 := NB236_258.out
       have hnc41 := NB258_236.out
       have hcz42_0 : w34.cell? ⟨gb236, 0, none⟩ = some (.int .i64 a0_0) := bc BK236.out 0
       have hcz42_1 : w34.cell? ⟨gb236, 1, none⟩ = some (.int .i64 a0_1) := bc BK236.out 1
       have hcz42_2 : w34.cell? ⟨gb236, 2, none⟩ = some (.int .i64 a0_2) := bc BK236.out 2
       have hcz42_3 : w34.cell? ⟨gb236, 3, none⟩ = some (.slice A0_3 l0_3.length c0_3) := bc BK236.out 3
       have hfz42_0 := blk_frozen BK236.out 0
       have hfz42_1 := blk_frozen BK236.out 1
       have hfz42_2 := blk_frozen BK236.out 2
       have hfz42_3 := blk_frozen BK236.out 3
       try go_wp2_with (first | ((with_reducible refine gate_callee (f := 8) rfl ?_); refine goesL_ (some 24) rfl rfl Try.func8 (by kernel_rfl) rfl #[.agg #[.int .i64 a0_0, .int .i64 a0_1, .int .i64 a0_2, .slice A0_3 l0_3.length c0_3]] rfl (by (try simp only [List.map_toArray, List.map_cons, List.map_nil]); first | done | rfl | (simp only [List.length_drop, List.length_take]; rfl)) ?_; (with_reducible refine (laws_toPicture.calls k a0_0 a0_1 a0_2 _ _ l0_3 t259 t260 t261 t262 _ ?side1 ?side2 A13.out).mono ?_); (case side1 => exact Kd.C_below HR0_3.out (by repeat (first | (with_reducible exact HB.out) | apply below_alloc | apply pw_below_drewN | apply below_drew1 | refine below_set ?_ (Aside0.out (by assumption))))); (case side2 => exact HC0_3.out); rintro e w43 ⟨v263, rfl, ho0, hb⟩; refine ⟨_, rfl, ?_⟩; have n0_ := m0 (Kd.S_elder' (by (with_reducible repeat (first | apply Kd.S_alloc | apply Kd.S_drewN | apply Kd.S_drew)); exact (Kd.S_mono (Kd.S_far (p := ⟨gb258, 4, none⟩) (Kd.S_far (p := ⟨gb258, 3, none⟩) (Kd.S_far (p := ⟨gb258, 2, none⟩) (Kd.S_far (p := ⟨gb258, 1, none⟩) (Kd.S_far (p := ⟨gb258, 0, none⟩) (Kd.S_types HO244.out BK258.out (by decide)) (fun _ hk => hk.2) (.int .i64 t251)) (fun _ hk => hk.2) (.int .i64 t252)) (fun _ hk => hk.2) (.int .i64 t253)) (fun _ hk => hk.2) (.int .i64 t254)) (fun _ hk => hk.2) (.slice Ao39 t255.length co39)) (fun _ h_ => h_.1))) (Kd.S_base ho0) hb); have n1_ := m0 (Kd.R_below (by (with_reducible repeat (first | apply Kd.R_alloc | apply Kd.R_drewN | apply Kd.R_drew)); exact (Kd.R_mono (Kd.R_far (p := ⟨gb258, 4, none⟩) (Kd.R_far (p := ⟨gb258, 3, none⟩) (Kd.R_far (p := ⟨gb258, 2, none⟩) (Kd.R_far (p := ⟨gb258, 1, none⟩) (Kd.R_far (p := ⟨gb258, 0, none⟩) (Kd.R_types HO257.out BK258.out (by decide)) (fun _ hk => hk.2) (.int .i64 t251)) (fun _ hk => hk.2) (.int .i64 t252)) (fun _ hk => hk.2) (.int .i64 t253)) (fun _ hk => hk.2) (.int .i64 t254)) (fun _ hk => hk.2) (.slice Ao39 t255.length co39)) (fun _ h_ => h_.1))) hb); have n2_ := m0 (Kd.S_lower (Kd.S_new' ho0 (Kd.S_lt (by (with_reducible repeat (first | apply Kd.S_alloc | apply Kd.S_drewN | apply Kd.S_drew)); exact (Kd.S_mono (Kd.S_far (p := ⟨gb258, 4, none⟩) (Kd.S_far (p := ⟨gb258, 3, none⟩) (Kd.S_far (p := ⟨gb258, 2, none⟩) (Kd.S_far (p := ⟨gb258, 1, none⟩) (Kd.S_far (p := ⟨gb258, 0, none⟩) (Kd.S_types HO244.out BK258.out (by decide)) (fun _ hk => hk.2) (.int .i64 t251)) (fun _ hk => hk.2) (.int .i64 t252)) (fun _ hk => hk.2) (.int .i64 t253)) (fun _ hk => hk.2) (.int .i64 t254)) (fun _ hk => hk.2) (.slice Ao39 t255.length co39)) (fun _ h_ => h_.1))))) (below_size (by repeat (first | (with_reducible exact HB.out) | apply below_alloc | apply pw_below_drewN | apply below_drew1 | refine below_set ?_ (Aside0.out (by assumption)))))); have n3_ := m0 (blk_below (g := gb236) (o := .cells #[.int .i64 a0_0, .int .i64 a0_1, .int .i64 a0_2, .slice A0_3 l0_3.length c0_3] 24 (0, 0)) (by (with_reducible repeat (first | refine blk_drewN ?_ _ | refine blk_drew ?_ | refine blk_alloc ?_ _)); refine blk_far ?_ NB236_258.out _; (with_reducible repeat (first | refine blk_drewN ?_ _ | refine blk_drew ?_ | refine blk_alloc ?_ _)); refine blk_far ?_ NB236_258.out _; (with_reducible repeat (first | refine blk_drewN ?_ _ | refine blk_drew ?_ | refine blk_alloc ?_ _)); refine blk_far ?_ NB236_258.out _; (with_reducible repeat (first | refine blk_drewN ?_ _ | refine blk_drew ?_ | refine blk_alloc ?_ _)); refine blk_far ?_ NB236_258.out _; (with_reducible repeat (first | refine blk_drewN ?_ _ | refine blk_drew ?_ | refine blk_alloc ?_ _)); refine blk_far ?_ NB236_258.out _; (with_reducible repeat (first | refine blk_drewN ?_ _ | refine blk_drew ?_ | refine blk_alloc ?_ _)); exact BK236.out) hb); have n4_ := m0 (blk_below (g := gb237) (o := .cells #[.int .i64 a1_0, .int .i64 a1_1, .int .i64 a1_2, .int .i64 a1_3, .bool a1_4, .bool a1_5] 26 (0, 0)) (by (with_reducible repeat (first | refine blk_drewN ?_ _ | refine blk_drew ?_ | refine blk_alloc ?_ _)); refine blk_far ?_ NB237_258.out _; (with_reducible repeat (first | refine blk_drewN ?_ _ | refine blk_drew ?_ | refine blk_alloc ?_ _)); refine blk_far ?_ NB237_258.out _; (with_reducible repeat (first | refine blk_drewN ?_ _ | refine blk_drew ?_ | refine blk_alloc ?_ _)); refine blk_far ?_ NB237_258.out _; (with_reducible repeat (first | refine blk_drewN ?_ _ | refine blk_drew ?_ | refine blk_alloc ?_ _)); refine blk_far ?_ NB237_258.out _; (with_reducible repeat (first | refine blk_drewN ?_ _ | refine blk_drew ?_ | refine blk_alloc ?_ _)); refine blk_far ?_ NB237_258.out _; (with_reducible repeat (first | refine blk_drewN ?_ _ | refine blk_drew ?_ | refine blk_alloc ?_ _)); exact BK237.out) hb); have n5_ := m0 (blk_below (g := gb258) (o := .cells #[.int .i64 t251, .int .i64 t252, .int .i64 t253, .int .i64 t254, .slice Ao39 t255.length co39] 30 (0, 0)) (by (with_reducible repeat (first | refine blk_drewN ?_ _ | refine blk_drew ?_ | refine blk_alloc ?_ _)); refine blk_put (cs := #[.int .i64 t251, .int .i64 t252, .int .i64 t253, .int .i64 t254, .slice none 0 0]) ?_ 4 _ rfl; (with_reducible repeat (first | refine blk_drewN ?_ _ | refine blk_drew ?_ | refine blk_alloc ?_ _)); refine blk_put (cs := #[.int .i64 t251, .int .i64 t252, .int .i64 t253, .int .i64 0, .slice none 0 0]) ?_ 3 _ rfl; (with_reducible repeat (first | refine blk_drewN ?_ _ | refine blk_drew ?_ | refine blk_alloc ?_ _)); refine blk_put (cs := #[.int .i64 t251, .int .i64 t252, .int .i64 0, .int .i64 0, .slice none 0 0]) ?_ 2 _ rfl; (with_reducible repeat (first | refine blk_drewN ?_ _ | refine blk_drew ?_ | refine blk_alloc ?_ _)); refine blk_put (cs := #[.int .i64 t251, .int .i64 0, .int .i64 0, .int .i64 0, .slice none 0 0]) ?_ 1 _ rfl; (with_reducible repeat (first | refine blk_drewN ?_ _ | refine blk_drew ?_ | refine blk_alloc ?_ _)); refine blk_put (cs := #[.int .i64 0, .int .i64 0, .int .i64 0, .int .i64 0, .slice none 0 0]) ?_ 0 _ rfl; (with_reducible repeat (first | refine blk_drewN ?_ _ | refine blk_drew ?_ | refine blk_alloc ?_ _)); exact BK258.out) hb); have n6_ := m0 (below_step (by repeat (first | (with_reducible exact HB.out) | apply below_alloc | apply pw_below_drewN | apply below_drew1 | refine below_set ?_ (Aside0.out (by assumption)))) hb); clear HO244 HO257 BK236 BK237 BK258 HB; have HO244 := n0_; have HO257 := n1_; have HO264 := n2_; have BK236 := n3_; have BK237 := n4_; have BK258 := n5_; have HB := n6_; clear n0_ n1_ n2_ n3_ n4_ n5_ n6_; (try clear hb); (try clear hb2); (try clear hk); (try clear hi); (try clear ho0)) | ((with_reducible refine gate_dst (N := 7) rfl ?_); refine box_event ?hg (N := 7) ?hd (cs := #[.int .i64 0, .int .i64 0, .int .i64 0, .slice none 0 0]) (t := 32) ?hr ?_; (case hd => rfl); (case hg => rfl); (case hr => first | (go_simp; done) | (go_simp; rfl)); intro gb265 hg w44 hbox hb; have n0_ := m0 (Kd.S_below (sW HO244.out) hb); have n1_ := m0 (Kd.R_below (rW HO257.out) hb); have n2_ := m0 (Kd.S_below (sW HO264.out) hb); have n3_ := m0 (blk_below (bkW BK236.out) hb); have n4_ := m0 (blk_below (bkW BK237.out) hb); have n5_ := m0 (blk_below (bkW BK258.out) hb); have n6_ := m0 (below_step (by repeat (first | (with_reducible exact HB.out) | apply below_alloc | apply pw_below_drewN | apply below_drew1 | refine below_set ?_ (Aside0.out (by assumption)))) hb); have n7_ := m0 (hbox); have n8_ := m0 ((by rw [hg]; exact (below_size (by repeat (first | (with_reducible exact HB.out) | apply below_alloc | apply pw_below_drewN | apply below_drew1 | refine below_set ?_ (Aside0.out (by assumption))))) : w.heap.size ≤ gb265)); have n9_ := m0 ((by rw [hg]; exact (below_size (by repeat (first | (with_reducible exact HB.out) | apply below_alloc | apply pw_below_drewN | apply below_drew1 | refine below_set ?_ (Aside0.out (by assumption))))) : w.heap.size ≤ gb265)); have n10_ := m0 ((by rw [hg]; exact Nat.ne_of_lt (blk_lt (bkW BK236.out)) : gb236 ≠ gb265)); have n11_ := m0 ((by rw [hg]; exact Nat.ne_of_gt (blk_lt (bkW BK236.out)) : gb265 ≠ gb236)); have n12_ := m0 ((by rw [hg]; exact Nat.ne_of_lt (blk_lt (bkW BK237.out)) : gb237 ≠ gb265)); have n13_ := m0 ((by rw [hg]; exact Nat.ne_of_gt (blk_lt (bkW BK237.out)) : gb265 ≠ gb237)); have n14_ := m0 ((by rw [hg]; exact Nat.ne_of_lt (blk_lt (bkW BK258.out)) : gb258 ≠ gb265)); have n15_ := m0 ((by rw [hg]; exact Nat.ne_of_gt (blk_lt (bkW BK258.out)) : gb265 ≠ gb258)); clear HO244 HO257 HO264 BK236 BK237 BK258 HB; have HO244 := n0_; have HO257 := n1_; have HO264 := n2_; have BK236 := n3_; have BK237 := n4_; have BK258 := n5_; have HB := n6_; have BK265 := n7_; have GW265 := n8_; have GE265 := n9_; have NB236_265 := n10_; have NB265_236 := n11_; have NB237_265 := n12_; have NB265_237 := n13_; have NB258_265 := n14_; have NB265_258 := n15_; clear n0_ n1_ n2_ n3_ n4_ n5_ n6_ n7_ n8_ n9_ n10_ n11_ n12_ n13_ n14_ n15_; clear hb hbox hg; have hnb45 := NB265_236.out; have hnc45 := NB236_265.out; have hnb46 := NB265_237.out; have hnc46 := NB237_265.out; have hnb47 := NB265_258.out; have hnc47 := NB258_265.out; have hcz48_0 : w44.cell? ⟨gb265, 0, none⟩ = some (.int .i64 0) := bc BK265.out 0; have hcz48_1 : w44.cell? ⟨gb265, 1, none⟩ = some (.int .i64 0) := bc BK265.out 1; have hcz48_2 : w44.cell? ⟨gb265, 2, none⟩ = some (.int .i64 0) := bc BK265.out 2; have hcz48_3 : w44.cell? ⟨gb265, 3, none⟩ = some (.slice none 0 0) := bc BK265.out 3; have hfz48_0 := blk_frozen BK265.out 0; have hfz48_1 := blk_frozen BK265.out 1; have hfz48_2 := blk_frozen BK265.out 2; have hfz48_3 := blk_frozen BK265.out 3; obtain ⟨Ao49, co49, eo49⟩ := Kd.S_slice HO264.out; subst eo49))
       have n0_ : Aside0 (Kd.S (Kd.slice 3 (Kd.int .i64)) 41 ((((w44.setCell ⟨gb265, 0, none⟩ (.int .i64 t259)).setCell ⟨gb265, 1, none⟩ (.int .i64 t260)).setCell ⟨gb265, 2, none⟩ (.int .i64 t261)).setCell ⟨gb265, 3, none⟩ (.slice Ao49 t262.length co49)) w.heap.size (fun k_ => some k_ ≠ (.slice Ao49 t262.length co49 : Value).ownBlock) v243 t242) := ⟨by (with_reducible repeat (first | apply Kd.S_alloc | apply Kd.S_drewN | apply Kd.S_drew)); exact Kd.S_mono (Kd.S_far (p := ⟨gb265, 3, none⟩) (Kd.S_far (p := ⟨gb265, 2, none⟩) (Kd.S_far (p := ⟨gb265, 1, none⟩) (Kd.S_far (p := ⟨gb265, 0, none⟩) (Kd.S_types HO244.out BK265.out (by decide)) (fun _ hk => hk.2) (.int .i64 t259)) (fun _ hk => hk.2) (.int .i64 t260)) (fun _ hk => hk.2) (.int .i64 t261)) (fun _ hk => hk.2) (.slice Ao49 t262.length co49)) (fun _ hk => by first | exact hk.1.2 | simp only [ne_eq, hk, not_false_eq_true, and_self])⟩
       have n1_ : Aside0 (Kd.R k55 55 ((((w44.setCell ⟨gb265, 0, none⟩ (.int .i64 t259)).setCell ⟨gb265, 1, none⟩ (.int .i64 t260)).setCell ⟨gb265, 2, none⟩ (.int .i64 t261)).setCell ⟨gb265, 3, none⟩ (.slice Ao49 t262.length co49)) w.heap.size (fun _ => True) (.slice Ao39 t255.length co39) t255) := ⟨by (with_reducible repeat (first | apply Kd.R_alloc | apply Kd.R_drewN | apply Kd.R_drew)); exact Kd.R_mono (Kd.R_far (p := ⟨gb265, 3, none⟩) (Kd.R_far (p := ⟨gb265, 2, none⟩) (Kd.R_far (p := ⟨gb265, 1, none⟩) (Kd.R_far (p := ⟨gb265, 0, none⟩) (Kd.R_types HO257.out BK265.out (by decide)) (fun _ hk => hk.2) (.int .i64 t259)) (fun _ hk => hk.2) (.int .i64 t260)) (fun _ hk => hk.2) (.int .i64 t261)) (fun _ hk => hk.2) (.slice Ao49 t262.length co49)) (fun _ hk => trivial)⟩
       have n2_ : Aside0 (Kd.S (Kd.slice 3 (Kd.int .i64)) 41 ((((w44.setCell ⟨gb265, 0, none⟩ (.int .i64 t259)).setCell ⟨gb265, 1, none⟩ (.int .i64 t260)).setCell ⟨gb265, 2, none⟩ (.int .i64 t261)).setCell ⟨gb265, 3, none⟩ (.slice Ao49 t262.length co49)) w.heap.size (fun k_ => some k_ ≠ (v243 : Value).ownBlock) (.slice Ao49 t262.length co49) t262) := ⟨by (with_reducible repeat (first | apply Kd.S_alloc | apply Kd.S_drewN | apply Kd.S_drew)); exact Kd.S_mono (Kd.S_far (p := ⟨gb265, 3, none⟩) (Kd.S_far (p := ⟨gb265, 2, none⟩) (Kd.S_far (p := ⟨gb265, 1, none⟩) (Kd.S_far (p := ⟨gb265, 0, none⟩) (Kd.S_types HO264.out BK265.out (by decide)) (fun _ hk => hk.2) (.int .i64 t259)) (fun _ hk => hk.2) (.int .i64 t260)) (fun _ hk => hk.2) (.int .i64 t261)) (fun _ hk => hk.2) (.slice Ao49 t262.length co49)) (fun _ hk => by first | exact hk.1.2 | simp only [ne_eq, hk, not_false_eq_true, and_self])⟩
       have n3_ : Aside0 (((((w44.setCell ⟨gb265, 0, none⟩ (.int .i64 t259)).setCell ⟨gb265, 1, none⟩ (.int .i64 t260)).setCell ⟨gb265, 2, none⟩ (.int .i64 t261)).setCell ⟨gb265, 3, none⟩ (.slice Ao49 t262.length co49)).heap[gb236]? = some (.cells #[.int .i64 a0_0, .int .i64 a0_1, .int .i64 a0_2, .slice A0_3 l0_3.length c0_3] 24 (0, 0))) := ⟨by (with_reducible repeat (first | refine blk_drewN ?_ _ | refine blk_drew ?_ | refine blk_alloc ?_ _)); refine blk_far ?_ NB236_265.out _; (with_reducible repeat (first | refine blk_drewN ?_ _ | refine blk_drew ?_ | refine blk_alloc ?_ _)); refine blk_far ?_ NB236_265.out _; (with_reducible repeat (first | refine blk_drewN ?_ _ | refine blk_drew ?_ | refine blk_alloc ?_ _)); refine blk_far ?_ NB236_265.out _; (with_reducible repeat (first | refine blk_drewN ?_ _ | refine blk_drew ?_ | refine blk_alloc ?_ _)); refine blk_far ?_ NB236_265.out _; (with_reducible repeat (first | refine blk_drewN ?_ _ | refine blk_drew ?_ | refine blk_alloc ?_ _)); exact BK236.out⟩
       have n4_ : Aside0 (((((w44.setCell ⟨gb265, 0, none⟩ (.int .i64 t259)).setCell ⟨gb265, 1, none⟩ (.int .i64 t260)).setCell ⟨gb265, 2, none⟩ (.int .i64 t261)).setCell ⟨gb265, 3, none⟩ (.slice Ao49 t262.length co49)).heap[gb237]? = some (.cells #[.int .i64 a1_0, .int .i64 a1_1, .int .i64 a1_2, .int .i64 a1_3, .bool a1_4, .bool a1_5] 26 (0, 0))) := ⟨by (with_reducible repeat (first | refine blk_drewN ?_ _ | refine blk_drew ?_ | refine blk_alloc ?_ _)); refine blk_far ?_ NB237_265.out _; (with_reducible repeat (first | refine blk_drewN ?_ _ | refine blk_drew ?_ | refine blk_alloc ?_ _)); refine blk_far ?_ NB237_265.out _; (with_reducible repeat (first | refine blk_drewN ?_ _ | refine blk_drew ?_ | refine blk_alloc ?_ _)); refine blk_far ?_ NB237_265.out _; (with_reducible repeat (first | refine blk_drewN ?_ _ | refine blk_drew ?_ | refine blk_alloc ?_ _)); refine blk_far ?_ NB237_265.out _; (with_reducible repeat (first | refine blk_drewN ?_ _ | refine blk_drew ?_ | refine blk_alloc ?_ _)); exact BK237.out⟩
       have n5_ : Aside0 (((((w44.setCell ⟨gb265, 0, none⟩ (.int .i64 t259)).setCell ⟨gb265, 1, none⟩ (.int .i64 t260)).setCell ⟨gb265, 2, none⟩ (.int .i64 t261)).setCell ⟨gb265, 3, none⟩ (.slice Ao49 t262.length co49)).heap[gb258]? = some (.cells #[.int .i64 t251, .int .i64 t252, .int .i64 t253, .int .i64 t254, .slice Ao39 t255.length co39] 30 (0, 0))) := ⟨by (with_reducible repeat (first | refine blk_drewN ?_ _ | refine blk_drew ?_ | refine blk_alloc ?_ _)); refine blk_far ?_ NB258_265.out _; (with_reducible repeat (first | refine blk_drewN ?_ _ | refine blk_drew ?_ | refine blk_alloc ?_ _)); refine blk_far ?_ NB258_265.out _; (with_reducible repeat (first | refine blk_drewN ?_ _ | refine blk_drew ?_ | refine blk_alloc ?_ _)); refine blk_far ?_ NB258_265.out _; (with_reducible repeat (first | refine blk_drewN ?_ _ | refine blk_drew ?_ | refine blk_alloc ?_ _)); refine blk_far ?_ NB258_265.out _; (with_reducible repeat (first | refine blk_drewN ?_ _ | refine blk_drew ?_ | refine blk_alloc ?_ _)); exact BK258.out⟩
       have n6_ : Aside0 (((((w44.setCell ⟨gb265, 0, none⟩ (.int .i64 t259)).setCell ⟨gb265, 1, none⟩ (.int .i64 t260)).setCell ⟨gb265, 2, none⟩ (.int .i64 t261)).setCell ⟨gb265, 3, none⟩ (.slice Ao49 t262.length co49)).heap[gb265]? = some (.cells #[.int .i64 t259, .int .i64 t260, .int .i64 t261, .slice Ao49 t262.length co49] 32 (0, 0))) := ⟨by (with_reducible repeat (first | refine blk_drewN ?_ _ | refine blk_drew ?_ | refine blk_alloc ?_ _)); refine blk_put (cs := #[.int .i64 t259, .int .i64 t260, .int .i64 t261, .slice none 0 0]) ?_ 3 _ rfl; (with_reducible repeat (first | refine blk_drewN ?_ _ | refine blk_drew ?_ | refine blk_alloc ?_ _)); refine blk_put (cs := #[.int .i64 t259, .int .i64 t260, .int .i64 0, .slice none 0 0]) ?_ 2 _ rfl; (with_reducible repeat (first | refine blk_drewN ?_ _ | refine blk_drew ?_ | refine blk_alloc ?_ _)); refine blk_put (cs := #[.int .i64 t259, .int .i64 0, .int .i64 0, .slice none 0 0]) ?_ 1 _ rfl; (with_reducible repeat (first | refine blk_drewN ?_ _ | refine blk_drew ?_ | refine blk_alloc ?_ _)); refine blk_put (cs := #[.int .i64 0, .int .i64 0, .int .i64 0, .slice none 0 0]) ?_ 0 _ rfl; (with_reducible repeat (first | refine blk_drewN ?_ _ | refine blk_drew ?_ | refine blk_alloc ?_ _)); exact BK265.out⟩
       have n7_ : Aside0 (Below w.heap.size w ((((w44.setCell ⟨gb265, 0, none⟩ (.int .i64 t259)).setCell ⟨gb265, 1, none⟩ (.int .i64 t260)).setCell ⟨gb265, 2, none⟩ (.int .i64 t261)).setCell ⟨gb265, 3, none⟩ (.slice Ao49 t262.length co49))) := ⟨by repeat (first | (with_reducible first | exact HB.out | apply below_alloc | apply pw_below_drewN | apply below_drew1 | refine below_set ?_ (Aside0.out (by with_reducible assumption))) | exact HB.out)⟩
       (try clear HO244)
       (try clear HO257)
       (try clear HO264)
       (try clear BK236)
       (try clear BK237)
       (try clear BK258)
       (try clear BK265)
       (try clear HB)
       generalize ((((w44.setCell ⟨gb265, 0, none⟩ (.int .i64 t259)).setCell ⟨gb265, 1, none⟩ (.int .i64 t260)).setCell ⟨gb265, 2, none⟩ (.int .i64 t261)).setCell ⟨gb265, 3, none⟩ (.slice Ao49 t262.length co49)) = w50 at n0_ n1_ n2_ n3_ n4_ n5_ n6_ n7_ ⊢
       have HO244 := n0_
       have HO257 := n1_
       have HO264 := n2_
       have BK236 := n3_
       have BK237 := n4_
       have BK258 := n5_
       have BK265 := n6_
       have HB := n7_
       clear n0_ n1_ n2_ n3_ n4_ n5_ n6_ n7_
       have n0_ := m0 (Kd.S_drew HO244.out)
       have n1_ := m0 (Kd.R_drew HO257.out)
       have n2_ := m0 (Kd.S_drew HO264.out)
       have n3_ := m0 (blk_drew BK236.out)
       have n4_ := m0 (blk_drew BK237.out)
       have n5_ := m0 (blk_drew BK258.out)
       have n6_ := m0 (blk_drew BK265.out)
       have n7_ := m0 (below_drew1 HB.out)
       clear HO244 HO257 HO264 BK236 BK237 BK258 BK265 HB
       have HO244 := n0_
       have HO257 := n1_
       have HO264 := n2_
       have BK236 := n3_
       have BK237 := n4_
       have BK258 := n5_
       have BK265 := n6_
       have HB := n7_
       clear n0_ n1_ n2_ n3_ n4_ n5_ n6_ n7_
       refine start_ (n := 6) (S := fun w' => w'.cell? ⟨gb265, 0, none⟩ = some (.int .i64 t259) ∧ w'.cell? ⟨gb265, 1, none⟩ = some (.int .i64 t260) ∧ w'.cell? ⟨gb265, 2, none⟩ = some (.int .i64 t261) ∧ w'.cell? ⟨gb265, 3, none⟩ = some (.slice Ao49 t262.length co49) ∧ w'.cell? ⟨gb237, 0, none⟩ = some (.int .i64 a1_0) ∧ w'.cell? ⟨gb237, 1, none⟩ = some (.int .i64 a1_1) ∧ w'.cell? ⟨gb237, 2, none⟩ = some (.int .i64 a1_2) ∧ w'.cell? ⟨gb237, 3, none⟩ = some (.int .i64 a1_3) ∧ w'.cell? ⟨gb237, 4, none⟩ = some (.bool a1_4) ∧ w'.cell? ⟨gb237, 5, none⟩ = some (.bool a1_5)) (ds := []) #[false, false, false, false, false, false] (by kernel_rfl) rfl rfl ⟨bc BK265.out 0, bc BK265.out 1, bc BK265.out 2, bc BK265.out 3, bc BK237.out 0, bc BK237.out 1, bc BK237.out 2, bc BK237.out 3, bc BK237.out 4, bc BK237.out 5⟩ (fun hHeld => ?_)
       generalize w50.drew = w51 at HO244 HO257 HO264 BK236 BK237 BK258 BK265 HB hHeld ⊢
       refine take_ (i := 0) (N := some 25) (v := ?_) (a' := ?_) #[true, false, false, false, false, false] rfl rfl (by kernel_rfl) (fun _ _ _ h => h) (Or.inl ⟨by rfl, ?_⟩) hHeld ?_ ?_
       rotate_left
       · rintro w' ⟨s0, s1, s2, s3, s4, s5, s6, s7, s8, s9⟩
         go_simp
         with_reducible rfl
       rotate_left
       · simp only [Act.put, List.setIfInBounds_toArray, List.set_cons_zero, List.set_cons_succ, i64_w, i32_w]
         rfl
       refine take_ (i := 1) (N := some 26) (v := ?_) (a' := ?_) #[true, true, false, false, false, false] rfl rfl (by kernel_rfl) (fun _ _ _ h => h) (Or.inl ⟨by rfl, ?_⟩) hHeld ?_ ?_
       rotate_left
       · rintro w' ⟨s0, s1, s2, s3, s4, s5, s6, s7, s8, s9⟩
         go_simp
         with_reducible rfl
       rotate_left
       · simp only [Act.put, List.setIfInBounds_toArray, List.set_cons_zero, List.set_cons_succ, i64_w, i32_w]
         rfl
       refine join_ (σ := Value × Nat) 1 #[true, true, true, true, true, false] (fun s_ => [(27, .agg #[.int .i64 t266, .int .i64 t267, .int .i64 t268, .int .i64 t269, .bool t270, .bool t271]), (28, .agg #[.int .i64 t272, .int .i64 t273, .int .i64 t274, .int .i64 t275, s_.1]), (8, .pointer (some ⟨s_.2, 0, none⟩))]) (fun s_ w' => (w'.cell? ⟨gb265, 0, none⟩ = some (.int .i64 t259) ∧ w'.cell? ⟨gb265, 1, none⟩ = some (.int .i64 t260) ∧ w'.cell? ⟨gb265, 2, none⟩ = some (.int .i64 t261) ∧ w'.cell? ⟨gb265, 3, none⟩ = some (.slice Ao49 t262.length co49) ∧ w'.cell? ⟨gb237, 0, none⟩ = some (.int .i64 a1_0) ∧ w'.cell? ⟨gb237, 1, none⟩ = some (.int .i64 a1_1) ∧ w'.cell? ⟨gb237, 2, none⟩ = some (.int .i64 a1_2) ∧ w'.cell? ⟨gb237, 3, none⟩ = some (.int .i64 a1_3) ∧ w'.cell? ⟨gb237, 4, none⟩ = some (.bool a1_4) ∧ w'.cell? ⟨gb237, 5, none⟩ = some (.bool a1_5)) ∧ (Kd.S (Kd.slice 3 (Kd.int .i64)) 41 w' w.heap.size (fun k_ => some k_ ≠ (.slice Ao49 t262.length co49 : Value).ownBlock) v243 t242) ∧ (Kd.R k55 55 w' w.heap.size (fun k_ => some k_ ≠ (s_.1 : Value).ownBlock) (.slice Ao39 t255.length co39) t255) ∧ (Kd.S (Kd.slice 3 (Kd.int .i64)) 41 w' w.heap.size (fun k_ => some k_ ≠ (v243 : Value).ownBlock) (.slice Ao49 t262.length co49) t262) ∧ (Kd.R k55 55 w' w.heap.size (fun k_ => some k_ ≠ (.slice Ao39 t255.length co39 : Value).ownBlock) s_.1 t276) ∧ (w'.heap[gb236]? = some (.cells #[.int .i64 a0_0, .int .i64 a0_1, .int .i64 a0_2, .slice A0_3 l0_3.length c0_3] 24 (0, 0))) ∧ (w'.heap[gb237]? = some (.cells #[.int .i64 a1_0, .int .i64 a1_1, .int .i64 a1_2, .int .i64 a1_3, .bool a1_4, .bool a1_5] 26 (0, 0))) ∧ (w'.heap[gb258]? = some (.cells #[.int .i64 t251, .int .i64 t252, .int .i64 t253, .int .i64 t254, .slice Ao39 t255.length co39] 30 (0, 0))) ∧ (w'.heap[gb265]? = some (.cells #[.int .i64 t259, .int .i64 t260, .int .i64 t261, .slice Ao49 t262.length co49] 32 (0, 0))) ∧ (w'.heap[s_.2]? = some (.cells #[.int .i64 0, .int .i64 0, .int .i64 0, .int .i64 0, .slice none 0 0] 30 (0, 0))) ∧ (w.heap.size ≤ s_.2) ∧ (w.heap.size ≤ s_.2) ∧ (gb236 ≠ s_.2) ∧ (s_.2 ≠ gb236) ∧ (gb237 ≠ s_.2) ∧ (s_.2 ≠ gb237) ∧ (gb258 ≠ s_.2) ∧ (s_.2 ≠ gb258) ∧ (gb265 ≠ s_.2) ∧ (s_.2 ≠ gb265) ∧ (Below w.heap.size w w')) ?_ ?_
       rotate_left
       · intro hCont
         refine two_ (i := 2) (j := 4) (Ni := some 27) (Nj := some 8) #[true, true, true, false, false, false] #[true, true, false, false, true, false] rfl rfl rfl rfl (by kernel_rfl) (by decide) (by decide) (fun K hK => ?_) (fun K hK => ?_)
         · skip
           refine goes_ Try.func9 (by kernel_rfl) rfl #[.agg #[.int .i64 a1_0, .int .i64 a1_1, .int .i64 a1_2, .int .i64 a1_3, .bool a1_4, .bool a1_5]] (by rfl) rfl rfl (by (try simp only [List.map_toArray, List.map_cons, List.map_nil]); first | done | rfl | (simp only [List.length_drop, List.length_take]; rfl)) ?_
           with_reducible refine (laws_toOptions.calls a1_0 a1_1 a1_2 a1_3 a1_4 a1_5 t266 t267 t268 t269 t270 t271 _ A14.out).mono ?_
           rintro e w52 ⟨rfl, hb⟩
           refine ⟨_, rfl, ?_⟩
           have n0_ := m0 (Kd.S_below (sW HO244.out) hb)
           have n1_ := m0 (Kd.R_below (rW HO257.out) hb)
           have n2_ := m0 (Kd.S_below (sW HO264.out) hb)
           have n3_ := m0 (blk_below (bkW BK236.out) hb)
           have n4_ := m0 (blk_below (bkW BK237.out) hb)
           have n5_ := m0 (blk_below (bkW BK258.out) hb)
           have n6_ := m0 (blk_below (bkW BK265.out) hb)
           have n7_ := m0 (below_step (by repeat (first | (with_reducible exact HB.out) | apply below_alloc | apply pw_below_drewN | apply below_drew1 | refine below_set ?_ (Aside0.out (by assumption)))) hb)
           clear HO244 HO257 HO264 BK236 BK237 BK258 BK265 HB
           have HO244 := n0_
           have HO257 := n1_
           have HO264 := n2_
           have BK236 := n3_
           have BK237 := n4_
           have BK258 := n5_
           have BK265 := n6_
           have HB := n7_
           clear n0_ n1_ n2_ n3_ n4_ n5_ n6_ n7_
           (try clear hb)
           (try clear hb2)
           (try clear hk)
           (try clear hi)
           refine hK.out _ _ ⟨bc BK265.out 0, bc BK265.out 1, bc BK265.out 2, bc BK265.out 3, bc BK237.out 0, bc BK237.out 1, bc BK237.out 2, bc BK237.out 3, bc BK237.out 4, bc BK237.out 5⟩ (fun hHeld => ?_)
           clear hK K
           refine norm_ (a' := ?_) ?_ ?_
           rotate_left
           · show Act.put _ (some 27) _ = _
             simp only [Act.put, List.setIfInBounds_toArray, List.set_cons_zero, List.set_cons_succ, i64_w, i32_w]
             rfl
           refine two_ (i := 3) (j := 4) (Ni := some 28) (Nj := some 8) #[true, true, true, true, false, false] #[true, true, true, false, true, false] rfl rfl rfl rfl (by kernel_rfl) (by decide) (by decide) (fun K hK => ?_) (fun K hK => ?_)
           · skip
             refine goes_ Try.func10 (by kernel_rfl) rfl #[.agg #[.int .i64 t259, .int .i64 t260, .int .i64 t261, .slice Ao49 t262.length co49], .agg #[.int .i64 t266, .int .i64 t267, .int .i64 t268, .int .i64 t269, .bool t270, .bool t271]] (by rfl) rfl rfl (by (try simp only [List.map_toArray, List.map_cons, List.map_nil]); first | done | rfl | (simp only [List.length_drop, List.length_take]; rfl)) ?_
             with_reducible refine (impl_FrameFor.calls k t259 t260 t261 _ _ t262 t266 t267 t268 t269 t270 t271 t272 t273 t274 t275 t276 _ ?side1 ?side2 A15.out).mono ?_
             (case side1 => repeat (first | exact (Kd.S_reads' HO264.out).2.2 | (with_reducible refine Kd.C_alloc ?_ _) | (with_reducible refine Kd.C_drewN ?_ _) | (with_reducible refine Kd.C_drew ?_)))
             (case side2 => exact (Kd.S_reads' HO264.out).2.1)
             rintro e w53 ⟨v277, rfl, ho0, hb⟩
             refine ⟨_, rfl, ?_⟩
             have n0_ := m0 (Kd.S_below (sW HO244.out) hb)
             have n1_ := m0 (Kd.R_elder' (rW HO257.out) (Kd.R_base ho0) hb)
             have n2_ := m0 (Kd.S_below (sW HO264.out) hb)
             have n3_ := m0 (Kd.R_lower (Kd.R_new' ho0 (Kd.R_lt (rW HO257.out))) (below_size (by repeat (first | (with_reducible exact HB.out) | apply below_alloc | apply pw_below_drewN | apply below_drew1 | refine below_set ?_ (Aside0.out (by assumption))))))
             have n4_ := m0 (blk_below (bkW BK236.out) hb)
             have n5_ := m0 (blk_below (bkW BK237.out) hb)
             have n6_ := m0 (blk_below (bkW BK258.out) hb)
             have n7_ := m0 (blk_below (bkW BK265.out) hb)
             have n8_ := m0 (below_step (by repeat (first | (with_reducible exact HB.out) | apply below_alloc | apply pw_below_drewN | apply below_drew1 | refine below_set ?_ (Aside0.out (by assumption)))) hb)
             clear HO244 HO257 HO264 BK236 BK237 BK258 BK265 HB
             have HO244 := n0_
             have HO257 := n1_
             have HO264 := n2_
             have HO278 := n3_
             have BK236 := n4_
             have BK237 := n5_
             have BK258 := n6_
             have BK265 := n7_
             have HB := n8_
             clear n0_ n1_ n2_ n3_ n4_ n5_ n6_ n7_ n8_
             (try clear hb)
             (try clear hb2)
             (try clear hk)
             (try clear hi)
             (try clear ho0)
             refine hK.out _ _ ⟨bc BK265.out 0, bc BK265.out 1, bc BK265.out 2, bc BK265.out 3, bc BK237.out 0, bc BK237.out 1, bc BK237.out 2, bc BK237.out 3, bc BK237.out 4, bc BK237.out 5⟩ (fun hHeld => ?_)
             clear hK K
             refine norm_ (a' := ?_) ?_ ?_
             rotate_left
             · show Act.put _ (some 28) _ = _
               simp only [Act.put, List.setIfInBounds_toArray, List.set_cons_zero, List.set_cons_succ, i64_w, i32_w]
               rfl
             refine one_ (i := 4) (N := some 8) #[true, true, true, true, true, false] rfl rfl (by kernel_rfl) (by decide) (fun K hK => ?_)
             refine box_step ?hg (N := 8) ?hd (cs := #[.int .i64 0, .int .i64 0, .int .i64 0, .int .i64 0, .slice none 0 0]) (t := 30) ?hr ?_; (case hd => rfl); (case hg => rfl); (case hr => first | (go_simp; done) | (go_simp; rfl))
             intro gb279 hg w54 hbox hb
             have n0_ := m0 (Kd.S_below (sW HO244.out) hb)
             have n1_ := m0 (Kd.R_below (rW HO257.out) hb)
             have n2_ := m0 (Kd.S_below (sW HO264.out) hb)
             have n3_ := m0 (Kd.R_below (rW HO278.out) hb)
             have n4_ := m0 (blk_below (bkW BK236.out) hb)
             have n5_ := m0 (blk_below (bkW BK237.out) hb)
             have n6_ := m0 (blk_below (bkW BK258.out) hb)
             have n7_ := m0 (blk_below (bkW BK265.out) hb)
             have n8_ := m0 (below_step (by repeat (first | (with_reducible exact HB.out) | apply below_alloc | apply pw_below_drewN | apply below_drew1 | refine below_set ?_ (Aside0.out (by assumption)))) hb)
             have n9_ := m0 (hbox)
             have n10_ := m0 ((by rw [hg]; exact (below_size (by repeat (first | (with_reducible exact HB.out) | apply below_alloc | apply pw_below_drewN | apply below_drew1 | refine below_set ?_ (Aside0.out (by assumption))))) : w.heap.size ≤ gb279))
             have n11_ := m0 ((by rw [hg]; exact (below_size (by repeat (first | (with_reducible exact HB.out) | apply below_alloc | apply pw_below_drewN | apply below_drew1 | refine below_set ?_ (Aside0.out (by assumption))))) : w.heap.size ≤ gb279))
             have n12_ := m0 ((by rw [hg]; exact Nat.ne_of_lt (blk_lt (bkW BK236.out)) : gb236 ≠ gb279))
             have n13_ := m0 ((by rw [hg]; exact Nat.ne_of_gt (blk_lt (bkW BK236.out)) : gb279 ≠ gb236))
             have n14_ := m0 ((by rw [hg]; exact Nat.ne_of_lt (blk_lt (bkW BK237.out)) : gb237 ≠ gb279))
             have n15_ := m0 ((by rw [hg]; exact Nat.ne_of_gt (blk_lt (bkW BK237.out)) : gb279 ≠ gb237))
             have n16_ := m0 ((by rw [hg]; exact Nat.ne_of_lt (blk_lt (bkW BK258.out)) : gb258 ≠ gb279))
             have n17_ := m0 ((by rw [hg]; exact Nat.ne_of_gt (blk_lt (bkW BK258.out)) : gb279 ≠ gb258))
             have n18_ := m0 ((by rw [hg]; exact Nat.ne_of_lt (blk_lt (bkW BK265.out)) : gb265 ≠ gb279))
             have n19_ := m0 ((by rw [hg]; exact Nat.ne_of_gt (blk_lt (bkW BK265.out)) : gb279 ≠ gb265))
             clear HO244 HO257 HO264 HO278 BK236 BK237 BK258 BK265 HB
             have HO244 := n0_
             have HO257 := n1_
             have HO264 := n2_
             have HO278 := n3_
             have BK236 := n4_
             have BK237 := n5_
             have BK258 := n6_
             have BK265 := n7_
             have HB := n8_
             have BK279 := n9_
             have GW279 := n10_
             have GE279 := n11_
             have NB236_279 := n12_
             have NB279_236 := n13_
             have NB237_279 := n14_
             have NB279_237 := n15_
             have NB258_279 := n16_
             have NB279_258 := n17_
             have NB265_279 := n18_
             have NB279_265 := n19_
             clear n0_ n1_ n2_ n3_ n4_ n5_ n6_ n7_ n8_ n9_ n10_ n11_ n12_ n13_ n14_ n15_ n16_ n17_ n18_ n19_ hb hbox hg
             refine hK.out _ _ ⟨bc BK265.out 0, bc BK265.out 1, bc BK265.out 2, bc BK265.out 3, bc BK237.out 0, bc BK237.out 1, bc BK237.out 2, bc BK237.out 3, bc BK237.out 4, bc BK237.out 5⟩ (fun hHeld => ?_)
             clear hK K
             refine norm_ (a' := ?_) ?_ ?_
             rotate_left
             · show Act.put _ (some 8) _ = _
               simp only [Act.put, List.setIfInBounds_toArray, List.set_cons_zero, List.set_cons_succ, i64_w, i32_w]
               rfl
             exact norm_ (by simp only [putAll, Act.put, List.setIfInBounds_toArray, List.set_cons_zero, List.set_cons_succ]) (hCont (v277, gb279) _ ⟨hHeld, (sW HO244.out), (by (with_reducible repeat (first | apply Kd.R_alloc | apply Kd.R_drewN | apply Kd.R_drew)); exact Kd.R_mono HO257.out (fun _ hk => hk.2)), (sW HO264.out), (by (with_reducible repeat (first | apply Kd.R_alloc | apply Kd.R_drewN | apply Kd.R_drew)); exact Kd.R_mono HO278.out (fun _ hk => hk.2)), (bkW BK236.out), (bkW BK237.out), (bkW BK258.out), (bkW BK265.out), (bkW BK279.out), GW279.out, GE279.out, NB236_279.out, NB279_236.out, NB237_279.out, NB279_237.out, NB258_279.out, NB279_258.out, NB265_279.out, NB279_265.out, (by repeat (first | (with_reducible exact HB.out) | apply below_alloc | apply pw_below_drewN | apply below_drew1 | refine below_set ?_ (Aside0.out (by assumption))))⟩)
           · skip
             refine box_step ?hg (N := 8) ?hd (cs := #[.int .i64 0, .int .i64 0, .int .i64 0, .int .i64 0, .slice none 0 0]) (t := 30) ?hr ?_; (case hd => rfl); (case hg => rfl); (case hr => first | (go_simp; done) | (go_simp; rfl))
             intro gb279 hg w53 hbox hb
             have n0_ := m0 (Kd.S_below (sW HO244.out) hb)
             have n1_ := m0 (Kd.R_below (rW HO257.out) hb)
             have n2_ := m0 (Kd.S_below (sW HO264.out) hb)
             have n3_ := m0 (blk_below (bkW BK236.out) hb)
             have n4_ := m0 (blk_below (bkW BK237.out) hb)
             have n5_ := m0 (blk_below (bkW BK258.out) hb)
             have n6_ := m0 (blk_below (bkW BK265.out) hb)
             have n7_ := m0 (below_step (by repeat (first | (with_reducible exact HB.out) | apply below_alloc | apply pw_below_drewN | apply below_drew1 | refine below_set ?_ (Aside0.out (by assumption)))) hb)
             have n8_ := m0 (hbox)
             have n9_ := m0 ((by rw [hg]; exact (below_size (by repeat (first | (with_reducible exact HB.out) | apply below_alloc | apply pw_below_drewN | apply below_drew1 | refine below_set ?_ (Aside0.out (by assumption))))) : w.heap.size ≤ gb279))
             have n10_ := m0 ((by rw [hg]; exact (below_size (by repeat (first | (with_reducible exact HB.out) | apply below_alloc | apply pw_below_drewN | apply below_drew1 | refine below_set ?_ (Aside0.out (by assumption))))) : w.heap.size ≤ gb279))
             have n11_ := m0 ((by rw [hg]; exact Nat.ne_of_lt (blk_lt (bkW BK236.out)) : gb236 ≠ gb279))
             have n12_ := m0 ((by rw [hg]; exact Nat.ne_of_gt (blk_lt (bkW BK236.out)) : gb279 ≠ gb236))
             have n13_ := m0 ((by rw [hg]; exact Nat.ne_of_lt (blk_lt (bkW BK237.out)) : gb237 ≠ gb279))
             have n14_ := m0 ((by rw [hg]; exact Nat.ne_of_gt (blk_lt (bkW BK237.out)) : gb279 ≠ gb237))
             have n15_ := m0 ((by rw [hg]; exact Nat.ne_of_lt (blk_lt (bkW BK258.out)) : gb258 ≠ gb279))
             have n16_ := m0 ((by rw [hg]; exact Nat.ne_of_gt (blk_lt (bkW BK258.out)) : gb279 ≠ gb258))
             have n17_ := m0 ((by rw [hg]; exact Nat.ne_of_lt (blk_lt (bkW BK265.out)) : gb265 ≠ gb279))
             have n18_ := m0 ((by rw [hg]; exact Nat.ne_of_gt (blk_lt (bkW BK265.out)) : gb279 ≠ gb265))
             clear HO244 HO257 HO264 BK236 BK237 BK258 BK265 HB
             have HO244 := n0_
             have HO257 := n1_
             have HO264 := n2_
             have BK236 := n3_
             have BK237 := n4_
             have BK258 := n5_
             have BK265 := n6_
             have HB := n7_
             have BK279 := n8_
             have GW279 := n9_
             have GE279 := n10_
             have NB236_279 := n11_
             have NB279_236 := n12_
             have NB237_279 := n13_
             have NB279_237 := n14_
             have NB258_279 := n15_
             have NB279_258 := n16_
             have NB265_279 := n17_
             have NB279_265 := n18_
             clear n0_ n1_ n2_ n3_ n4_ n5_ n6_ n7_ n8_ n9_ n10_ n11_ n12_ n13_ n14_ n15_ n16_ n17_ n18_ hb hbox hg
             refine hK.out _ _ ⟨bc BK265.out 0, bc BK265.out 1, bc BK265.out 2, bc BK265.out 3, bc BK237.out 0, bc BK237.out 1, bc BK237.out 2, bc BK237.out 3, bc BK237.out 4, bc BK237.out 5⟩ (fun hHeld => ?_)
             clear hK K
             refine norm_ (a' := ?_) ?_ ?_
             rotate_left
             · show Act.put _ (some 8) _ = _
               simp only [Act.put, List.setIfInBounds_toArray, List.set_cons_zero, List.set_cons_succ, i64_w, i32_w]
               rfl
             refine one_ (i := 3) (N := some 28) #[true, true, true, true, true, false] rfl rfl (by kernel_rfl) (by decide) (fun K hK => ?_)
             refine goes_ Try.func10 (by kernel_rfl) rfl #[.agg #[.int .i64 t259, .int .i64 t260, .int .i64 t261, .slice Ao49 t262.length co49], .agg #[.int .i64 t266, .int .i64 t267, .int .i64 t268, .int .i64 t269, .bool t270, .bool t271]] (by rfl) rfl rfl (by (try simp only [List.map_toArray, List.map_cons, List.map_nil]); first | done | rfl | (simp only [List.length_drop, List.length_take]; rfl)) ?_
             with_reducible refine (impl_FrameFor.calls k t259 t260 t261 _ _ t262 t266 t267 t268 t269 t270 t271 t272 t273 t274 t275 t276 _ ?side1 ?side2 A15.out).mono ?_
             (case side1 => repeat (first | exact (Kd.S_reads' HO264.out).2.2 | (with_reducible refine Kd.C_alloc ?_ _) | (with_reducible refine Kd.C_drewN ?_ _) | (with_reducible refine Kd.C_drew ?_)))
             (case side2 => exact (Kd.S_reads' HO264.out).2.1)
             rintro e w54 ⟨v277, rfl, ho0, hb⟩
             refine ⟨_, rfl, ?_⟩
             have n0_ := m0 (Kd.S_below (sW HO244.out) hb)
             have n1_ := m0 (Kd.R_elder' (rW HO257.out) (Kd.R_base ho0) hb)
             have n2_ := m0 (Kd.S_below (sW HO264.out) hb)
             have n3_ := m0 (Kd.R_lower (Kd.R_new' ho0 (Kd.R_lt (rW HO257.out))) (below_size (by repeat (first | (with_reducible exact HB.out) | apply below_alloc | apply pw_below_drewN | apply below_drew1 | refine below_set ?_ (Aside0.out (by assumption))))))
             have n4_ := m0 (blk_below (bkW BK236.out) hb)
             have n5_ := m0 (blk_below (bkW BK237.out) hb)
             have n6_ := m0 (blk_below (bkW BK258.out) hb)
             have n7_ := m0 (blk_below (bkW BK265.out) hb)
             have n8_ := m0 (blk_below (bkW BK279.out) hb)
             have n9_ := m0 (below_step (by repeat (first | (with_reducible exact HB.out) | apply below_alloc | apply pw_below_drewN | apply below_drew1 | refine below_set ?_ (Aside0.out (by assumption)))) hb)
             clear HO244 HO257 HO264 BK236 BK237 BK258 BK265 BK279 HB
             have HO244 := n0_
             have HO257 := n1_
             have HO264 := n2_
             have HO278 := n3_
             have BK236 := n4_
             have BK237 := n5_
             have BK258 := n6_
             have BK265 := n7_
             have BK279 := n8_
             have HB := n9_
             clear n0_ n1_ n2_ n3_ n4_ n5_ n6_ n7_ n8_ n9_
             (try clear hb)
             (try clear hb2)
             (try clear hk)
             (try clear hi)
             (try clear ho0)
             refine hK.out _ _ ⟨bc BK265.out 0, bc BK265.out 1, bc BK265.out 2, bc BK265.out 3, bc BK237.out 0, bc BK237.out 1, bc BK237.out 2, bc BK237.out 3, bc BK237.out 4, bc BK237.out 5⟩ (fun hHeld => ?_)
             clear hK K
             refine norm_ (a' := ?_) ?_ ?_
             rotate_left
             · show Act.put _ (some 28) _ = _
               simp only [Act.put, List.setIfInBounds_toArray, List.set_cons_zero, List.set_cons_succ, i64_w, i32_w]
               rfl
             exact norm_ (by simp only [putAll, Act.put, List.setIfInBounds_toArray, List.set_cons_zero, List.set_cons_succ]) (hCont (v277, gb279) _ ⟨hHeld, (sW HO244.out), (by (with_reducible repeat (first | apply Kd.R_alloc | apply Kd.R_drewN | apply Kd.R_drew)); exact Kd.R_mono HO257.out (fun _ hk => hk.2)), (sW HO264.out), (by (with_reducible repeat (first | apply Kd.R_alloc | apply Kd.R_drewN | apply Kd.R_drew)); exact Kd.R_mono HO278.out (fun _ hk => hk.2)), (bkW BK236.out), (bkW BK237.out), (bkW BK258.out), (bkW BK265.out), (bkW BK279.out), GW279.out, GE279.out, NB236_279.out, NB279_236.out, NB237_279.out, NB279_237.out, NB258_279.out, NB279_258.out, NB265_279.out, NB279_265.out, (by repeat (first | (with_reducible exact HB.out) | apply below_alloc | apply pw_below_drewN | apply below_drew1 | refine below_set ?_ (Aside0.out (by assumption))))⟩)
         · skip
           refine box_step ?hg (N := 8) ?hd (cs := #[.int .i64 0, .int .i64 0, .int .i64 0, .int .i64 0, .slice none 0 0]) (t := 30) ?hr ?_; (case hd => rfl); (case hg => rfl); (case hr => first | (go_simp; done) | (go_simp; rfl))
           intro gb279 hg w52 hbox hb
           have n0_ := m0 (Kd.S_below (sW HO244.out) hb)
           have n1_ := m0 (Kd.R_below (rW HO257.out) hb)
           have n2_ := m0 (Kd.S_below (sW HO264.out) hb)
           have n3_ := m0 (blk_below (bkW BK236.out) hb)
           have n4_ := m0 (blk_below (bkW BK237.out) hb)
           have n5_ := m0 (blk_below (bkW BK258.out) hb)
           have n6_ := m0 (blk_below (bkW BK265.out) hb)
           have n7_ := m0 (below_step (by repeat (first | (with_reducible exact HB.out) | apply below_alloc | apply pw_below_drewN | apply below_drew1 | refine below_set ?_ (Aside0.out (by assumption)))) hb)
           have n8_ := m0 (hbox)
           have n9_ := m0 ((by rw [hg]; exact (below_size (by repeat (first | (with_reducible exact HB.out) | apply below_alloc | apply pw_below_drewN | apply below_drew1 | refine below_set ?_ (Aside0.out (by assumption))))) : w.heap.size ≤ gb279))
           have n10_ := m0 ((by rw [hg]; exact (below_size (by repeat (first | (with_reducible exact HB.out) | apply below_alloc | apply pw_below_drewN | apply below_drew1 | refine below_set ?_ (Aside0.out (by assumption))))) : w.heap.size ≤ gb279))
           have n11_ := m0 ((by rw [hg]; exact Nat.ne_of_lt (blk_lt (bkW BK236.out)) : gb236 ≠ gb279))
           have n12_ := m0 ((by rw [hg]; exact Nat.ne_of_gt (blk_lt (bkW BK236.out)) : gb279 ≠ gb236))
           have n13_ := m0 ((by rw [hg]; exact Nat.ne_of_lt (blk_lt (bkW BK237.out)) : gb237 ≠ gb279))
           have n14_ := m0 ((by rw [hg]; exact Nat.ne_of_gt (blk_lt (bkW BK237.out)) : gb279 ≠ gb237))
           have n15_ := m0 ((by rw [hg]; exact Nat.ne_of_lt (blk_lt (bkW BK258.out)) : gb258 ≠ gb279))
           have n16_ := m0 ((by rw [hg]; exact Nat.ne_of_gt (blk_lt (bkW BK258.out)) : gb279 ≠ gb258))
           have n17_ := m0 ((by rw [hg]; exact Nat.ne_of_lt (blk_lt (bkW BK265.out)) : gb265 ≠ gb279))
           have n18_ := m0 ((by rw [hg]; exact Nat.ne_of_gt (blk_lt (bkW BK265.out)) : gb279 ≠ gb265))
           clear HO244 HO257 HO264 BK236 BK237 BK258 BK265 HB
           have HO244 := n0_
           have HO257 := n1_
           have HO264 := n2_
           have BK236 := n3_
           have BK237 := n4_
           have BK258 := n5_
           have BK265 := n6_
           have HB := n7_
           have BK279 := n8_
           have GW279 := n9_
           have GE279 := n10_
           have NB236_279 := n11_
           have NB279_236 := n12_
           have NB237_279 := n13_
           have NB279_237 := n14_
           have NB258_279 := n15_
           have NB279_258 := n16_
           have NB265_279 := n17_
           have NB279_265 := n18_
           clear n0_ n1_ n2_ n3_ n4_ n5_ n6_ n7_ n8_ n9_ n10_ n11_ n12_ n13_ n14_ n15_ n16_ n17_ n18_ hb hbox hg
           refine hK.out _ _ ⟨bc BK265.out 0, bc BK265.out 1, bc BK265.out 2, bc BK265.out 3, bc BK237.out 0, bc BK237.out 1, bc BK237.out 2, bc BK237.out 3, bc BK237.out 4, bc BK237.out 5⟩ (fun hHeld => ?_)
           clear hK K
           refine norm_ (a' := ?_) ?_ ?_
           rotate_left
           · show Act.put _ (some 8) _ = _
             simp only [Act.put, List.setIfInBounds_toArray, List.set_cons_zero, List.set_cons_succ, i64_w, i32_w]
             rfl
           refine one_ (i := 2) (N := some 27) #[true, true, true, false, true, false] rfl rfl (by kernel_rfl) (by decide) (fun K hK => ?_)
           refine goes_ Try.func9 (by kernel_rfl) rfl #[.agg #[.int .i64 a1_0, .int .i64 a1_1, .int .i64 a1_2, .int .i64 a1_3, .bool a1_4, .bool a1_5]] (by rfl) rfl rfl (by (try simp only [List.map_toArray, List.map_cons, List.map_nil]); first | done | rfl | (simp only [List.length_drop, List.length_take]; rfl)) ?_
           with_reducible refine (laws_toOptions.calls a1_0 a1_1 a1_2 a1_3 a1_4 a1_5 t266 t267 t268 t269 t270 t271 _ A14.out).mono ?_
           rintro e w53 ⟨rfl, hb⟩
           refine ⟨_, rfl, ?_⟩
           have n0_ := m0 (Kd.S_below (sW HO244.out) hb)
           have n1_ := m0 (Kd.R_below (rW HO257.out) hb)
           have n2_ := m0 (Kd.S_below (sW HO264.out) hb)
           have n3_ := m0 (blk_below (bkW BK236.out) hb)
           have n4_ := m0 (blk_below (bkW BK237.out) hb)
           have n5_ := m0 (blk_below (bkW BK258.out) hb)
           have n6_ := m0 (blk_below (bkW BK265.out) hb)
           have n7_ := m0 (blk_below (bkW BK279.out) hb)
           have n8_ := m0 (below_step (by repeat (first | (with_reducible exact HB.out) | apply below_alloc | apply pw_below_drewN | apply below_drew1 | refine below_set ?_ (Aside0.out (by assumption)))) hb)
           clear HO244 HO257 HO264 BK236 BK237 BK258 BK265 BK279 HB
           have HO244 := n0_
           have HO257 := n1_
           have HO264 := n2_
           have BK236 := n3_
           have BK237 := n4_
           have BK258 := n5_
           have BK265 := n6_
           have BK279 := n7_
           have HB := n8_
           clear n0_ n1_ n2_ n3_ n4_ n5_ n6_ n7_ n8_
           (try clear hb)
           (try clear hb2)
           (try clear hk)
           (try clear hi)
           refine hK.out _ _ ⟨bc BK265.out 0, bc BK265.out 1, bc BK265.out 2, bc BK265.out 3, bc BK237.out 0, bc BK237.out 1, bc BK237.out 2, bc BK237.out 3, bc BK237.out 4, bc BK237.out 5⟩ (fun hHeld => ?_)
           clear hK K
           refine norm_ (a' := ?_) ?_ ?_
           rotate_left
           · show Act.put _ (some 27) _ = _
             simp only [Act.put, List.setIfInBounds_toArray, List.set_cons_zero, List.set_cons_succ, i64_w, i32_w]
             rfl
           refine one_ (i := 3) (N := some 28) #[true, true, true, true, true, false] rfl rfl (by kernel_rfl) (by decide) (fun K hK => ?_)
           refine goes_ Try.func10 (by kernel_rfl) rfl #[.agg #[.int .i64 t259, .int .i64 t260, .int .i64 t261, .slice Ao49 t262.length co49], .agg #[.int .i64 t266, .int .i64 t267, .int .i64 t268, .int .i64 t269, .bool t270, .bool t271]] (by rfl) rfl rfl (by (try simp only [List.map_toArray, List.map_cons, List.map_nil]); first | done | rfl | (simp only [List.length_drop, List.length_take]; rfl)) ?_
           with_reducible refine (impl_FrameFor.calls k t259 t260 t261 _ _ t262 t266 t267 t268 t269 t270 t271 t272 t273 t274 t275 t276 _ ?side1 ?side2 A15.out).mono ?_
           (case side1 => repeat (first | exact (Kd.S_reads' HO264.out).2.2 | (with_reducible refine Kd.C_alloc ?_ _) | (with_reducible refine Kd.C_drewN ?_ _) | (with_reducible refine Kd.C_drew ?_)))
           (case side2 => exact (Kd.S_reads' HO264.out).2.1)
           rintro e w54 ⟨v277, rfl, ho0, hb⟩
           refine ⟨_, rfl, ?_⟩
           have n0_ := m0 (Kd.S_below (sW HO244.out) hb)
           have n1_ := m0 (Kd.R_elder' (rW HO257.out) (Kd.R_base ho0) hb)
           have n2_ := m0 (Kd.S_below (sW HO264.out) hb)
           have n3_ := m0 (Kd.R_lower (Kd.R_new' ho0 (Kd.R_lt (rW HO257.out))) (below_size (by repeat (first | (with_reducible exact HB.out) | apply below_alloc | apply pw_below_drewN | apply below_drew1 | refine below_set ?_ (Aside0.out (by assumption))))))
           have n4_ := m0 (blk_below (bkW BK236.out) hb)
           have n5_ := m0 (blk_below (bkW BK237.out) hb)
           have n6_ := m0 (blk_below (bkW BK258.out) hb)
           have n7_ := m0 (blk_below (bkW BK265.out) hb)
           have n8_ := m0 (blk_below (bkW BK279.out) hb)
           have n9_ := m0 (below_step (by repeat (first | (with_reducible exact HB.out) | apply below_alloc | apply pw_below_drewN | apply below_drew1 | refine below_set ?_ (Aside0.out (by assumption)))) hb)
           clear HO244 HO257 HO264 BK236 BK237 BK258 BK265 BK279 HB
           have HO244 := n0_
           have HO257 := n1_
           have HO264 := n2_
           have HO278 := n3_
           have BK236 := n4_
           have BK237 := n5_
           have BK258 := n6_
           have BK265 := n7_
           have BK279 := n8_
           have HB := n9_
           clear n0_ n1_ n2_ n3_ n4_ n5_ n6_ n7_ n8_ n9_
           (try clear hb)
           (try clear hb2)
           (try clear hk)
           (try clear hi)
           (try clear ho0)
           refine hK.out _ _ ⟨bc BK265.out 0, bc BK265.out 1, bc BK265.out 2, bc BK265.out 3, bc BK237.out 0, bc BK237.out 1, bc BK237.out 2, bc BK237.out 3, bc BK237.out 4, bc BK237.out 5⟩ (fun hHeld => ?_)
           clear hK K
           refine norm_ (a' := ?_) ?_ ?_
           rotate_left
           · show Act.put _ (some 28) _ = _
             simp only [Act.put, List.setIfInBounds_toArray, List.set_cons_zero, List.set_cons_succ, i64_w, i32_w]
             rfl
           exact norm_ (by simp only [putAll, Act.put, List.setIfInBounds_toArray, List.set_cons_zero, List.set_cons_succ]) (hCont (v277, gb279) _ ⟨hHeld, (sW HO244.out), (by (with_reducible repeat (first | apply Kd.R_alloc | apply Kd.R_drewN | apply Kd.R_drew)); exact Kd.R_mono HO257.out (fun _ hk => hk.2)), (sW HO264.out), (by (with_reducible repeat (first | apply Kd.R_alloc | apply Kd.R_drewN | apply Kd.R_drew)); exact Kd.R_mono HO278.out (fun _ hk => hk.2)), (bkW BK236.out), (bkW BK237.out), (bkW BK258.out), (bkW BK265.out), (bkW BK279.out), GW279.out, GE279.out, NB236_279.out, NB279_236.out, NB237_279.out, NB279_237.out, NB258_279.out, NB279_258.out, NB265_279.out, NB279_265.out, (by repeat (first | (with_reducible exact HB.out) | apply below_alloc | apply pw_below_drewN | apply below_drew1 | refine below_set ?_ (Aside0.out (by assumption))))⟩)
       rintro ⟨v277, gb279⟩ w55 ⟨hS_, h0_, h1_, h2_, h3_, h4_, h5_, h6_, h7_, h8_, h9_, h10_, h11_, h12_, h13_, h14_, h15_, h16_, h17_, h18_, h19_⟩
       have n0_ : Aside0 (Kd.S (Kd.slice 3 (Kd.int .i64)) 41 w55 w.heap.size (fun k_ => some k_ ≠ (.slice Ao49 t262.length co49 : Value).ownBlock) v243 t242) := ⟨h0_⟩
       have n1_ : Aside0 (Kd.R k55 55 w55 w.heap.size (fun k_ => some k_ ≠ (v277 : Value).ownBlock) (.slice Ao39 t255.length co39) t255) := ⟨h1_⟩
       have n2_ : Aside0 (Kd.S (Kd.slice 3 (Kd.int .i64)) 41 w55 w.heap.size (fun k_ => some k_ ≠ (v243 : Value).ownBlock) (.slice Ao49 t262.length co49) t262) := ⟨h2_⟩
       have n3_ : Aside0 (Kd.R k55 55 w55 w.heap.size (fun k_ => some k_ ≠ (.slice Ao39 t255.length co39 : Value).ownBlock) v277 t276) := ⟨h3_⟩
       have n4_ : Aside0 (w55.heap[gb236]? = some (.cells #[.int .i64 a0_0, .int .i64 a0_1, .int .i64 a0_2, .slice A0_3 l0_3.length c0_3] 24 (0, 0))) := ⟨h4_⟩
       have n5_ : Aside0 (w55.heap[gb237]? = some (.cells #[.int .i64 a1_0, .int .i64 a1_1, .int .i64 a1_2, .int .i64 a1_3, .bool a1_4, .bool a1_5] 26 (0, 0))) := ⟨h5_⟩
       have n6_ : Aside0 (w55.heap[gb258]? = some (.cells #[.int .i64 t251, .int .i64 t252, .int .i64 t253, .int .i64 t254, .slice Ao39 t255.length co39] 30 (0, 0))) := ⟨h6_⟩
       have n7_ : Aside0 (w55.heap[gb265]? = some (.cells #[.int .i64 t259, .int .i64 t260, .int .i64 t261, .slice Ao49 t262.length co49] 32 (0, 0))) := ⟨h7_⟩
       have n8_ : Aside0 (w55.heap[gb279]? = some (.cells #[.int .i64 0, .int .i64 0, .int .i64 0, .int .i64 0, .slice none 0 0] 30 (0, 0))) := ⟨h8_⟩
       have n9_ : Aside0 (w.heap.size ≤ gb279) := ⟨h9_⟩
       have n10_ : Aside0 (w.heap.size ≤ gb279) := ⟨h10_⟩
       have n11_ : Aside0 (gb236 ≠ gb279) := ⟨h11_⟩
       have n12_ : Aside0 (gb279 ≠ gb236) := ⟨h12_⟩
       have n13_ : Aside0 (gb237 ≠ gb279) := ⟨h13_⟩
       have n14_ : Aside0 (gb279 ≠ gb237) := ⟨h14_⟩
       have n15_ : Aside0 (gb258 ≠ gb279) := ⟨h15_⟩
       have n16_ : Aside0 (gb279 ≠ gb258) := ⟨h16_⟩
       have n17_ : Aside0 (gb265 ≠ gb279) := ⟨h17_⟩
       have n18_ : Aside0 (gb279 ≠ gb265) := ⟨h18_⟩
       have n19_ : Aside0 (Below w.heap.size w w55) := ⟨h19_⟩
       clear HO244 HO257 HO264 BK236 BK237 BK258 BK265 HB h0_ h1_ h2_ h3_ h4_ h5_ h6_ h7_ h8_ h9_ h10_ h11_ h12_ h13_ h14_ h15_ h16_ h17_ h18_ h19_
       have HO244 := n0_
       have HO257 := n1_
       have HO264 := n2_
       have HO278 := n3_
       have BK236 := n4_
       have BK237 := n5_
       have BK258 := n6_
       have BK265 := n7_
       have BK279 := n8_
       have GW279 := n9_
       have GE279 := n10_
       have NB236_279 := n11_
       have NB279_236 := n12_
       have NB237_279 := n13_
       have NB279_237 := n14_
       have NB258_279 := n15_
       have NB279_258 := n16_
       have NB265_279 := n17_
       have NB279_265 := n18_
       have HB := n19_
       clear n0_ n1_ n2_ n3_ n4_ n5_ n6_ n7_ n8_ n9_ n10_ n11_ n12_ n13_ n14_ n15_ n16_ n17_ n18_ n19_
       have hHeld : w55.cell? ⟨gb265, 0, none⟩ = some (.int .i64 t259) ∧ w55.cell? ⟨gb265, 1, none⟩ = some (.int .i64 t260) ∧ w55.cell? ⟨gb265, 2, none⟩ = some (.int .i64 t261) ∧ w55.cell? ⟨gb265, 3, none⟩ = some (.slice Ao49 t262.length co49) ∧ w55.cell? ⟨gb237, 0, none⟩ = some (.int .i64 a1_0) ∧ w55.cell? ⟨gb237, 1, none⟩ = some (.int .i64 a1_1) ∧ w55.cell? ⟨gb237, 2, none⟩ = some (.int .i64 a1_2) ∧ w55.cell? ⟨gb237, 3, none⟩ = some (.int .i64 a1_3) ∧ w55.cell? ⟨gb237, 4, none⟩ = some (.bool a1_4) ∧ w55.cell? ⟨gb237, 5, none⟩ = some (.bool a1_5) := hS_
       obtain ⟨Ao60, co60, eo60⟩ := Kd.R_slice HO278.out
       (first | subst eo60 | (injection eo60 with f1_ f2_ f3_; have f4_ := f1_.symm; have f5_ := f3_.symm; clear f1_ f2_ f3_; subst f4_; subst f5_))
       refine norm_ (a' := ?_) ?_ ?_
       rotate_left
       · simp only [putAll, Act.put, List.setIfInBounds_toArray, List.set_cons_zero, List.set_cons_succ]
         rfl
       refine one_ (i := 5) (N := none) #[true, true, true, true, true, true] rfl rfl (by kernel_rfl) (by decide) (fun K hK => ?_)
       have hs56 : w55.cell? ⟨gb279, 0, none⟩ = some (.int .i64 0) := bc BK279.out 0
       have hfs56 := blk_frozen BK279.out 0
       have hns56_0 := NB236_279.out
       have hns56_1 := NB237_279.out
       have hns56_2 := NB258_279.out
       have hns56_3 := NB265_279.out
       have hms56_0 := NB279_236.out
       have hms56_1 := NB279_237.out
       have hms56_2 := NB279_258.out
       have hms56_3 := NB279_265.out
       have hs57 : w55.cell? ⟨gb279, 1, none⟩ = some (.int .i64 0) := bc BK279.out 1
       have hfs57 := blk_frozen BK279.out 1
       have hns57_0 := NB236_279.out
       have hns57_1 := NB237_279.out
       have hns57_2 := NB258_279.out
       have hns57_3 := NB265_279.out
       have hms57_0 := NB279_236.out
       have hms57_1 := NB279_237.out
       have hms57_2 := NB279_258.out
       have hms57_3 := NB279_265.out
       have hs58 : w55.cell? ⟨gb279, 2, none⟩ = some (.int .i64 0) := bc BK279.out 2
       have hfs58 := blk_frozen BK279.out 2
       have hns58_0 := NB236_279.out
       have hns58_1 := NB237_279.out
       have hns58_2 := NB258_279.out
       have hns58_3 := NB265_279.out
       have hms58_0 := NB279_236.out
       have hms58_1 := NB279_237.out
       have hms58_2 := NB279_258.out
       have hms58_3 := NB279_265.out
       have hs59 : w55.cell? ⟨gb279, 3, none⟩ = some (.int .i64 0) := bc BK279.out 3
       have hfs59 := blk_frozen BK279.out 3
       have hns59_0 := NB236_279.out
       have hns59_1 := NB237_279.out
       have hns59_2 := NB258_279.out
       have hns59_3 := NB265_279.out
       have hms59_0 := NB279_236.out
       have hms59_1 := NB279_237.out
       have hms59_2 := NB279_258.out
       have hms59_3 := NB279_265.out
       have hs61 : w55.cell? ⟨gb279, 4, none⟩ = some (.slice none 0 0) := bc BK279.out 4
       have hfs61 := blk_frozen BK279.out 4
       have hns61_0 := NB236_279.out
       have hns61_1 := NB237_279.out
       have hns61_2 := NB258_279.out
       have hns61_3 := NB265_279.out
       have hms61_0 := NB279_236.out
       have hms61_1 := NB279_237.out
       have hms61_2 := NB279_258.out
       have hms61_3 := NB279_265.out
       refine skip_ (w1 := ?_) (by rfl) rfl ?_ ?_
       rotate_left
       · go_simp
         rfl
       refine hK.out _ _ ⟨((cell_far (p := ⟨gb279, _, none⟩) NB265_279.out _).trans (((cell_far (p := ⟨gb279, _, none⟩) NB265_279.out _).trans (((cell_far (p := ⟨gb279, _, none⟩) NB265_279.out _).trans (((cell_far (p := ⟨gb279, _, none⟩) NB265_279.out _).trans (((cell_far (p := ⟨gb279, _, none⟩) NB265_279.out _).trans (hHeld.1)))))))))), ((cell_far (p := ⟨gb279, _, none⟩) NB265_279.out _).trans (((cell_far (p := ⟨gb279, _, none⟩) NB265_279.out _).trans (((cell_far (p := ⟨gb279, _, none⟩) NB265_279.out _).trans (((cell_far (p := ⟨gb279, _, none⟩) NB265_279.out _).trans (((cell_far (p := ⟨gb279, _, none⟩) NB265_279.out _).trans (hHeld.2.1)))))))))), ((cell_far (p := ⟨gb279, _, none⟩) NB265_279.out _).trans (((cell_far (p := ⟨gb279, _, none⟩) NB265_279.out _).trans (((cell_far (p := ⟨gb279, _, none⟩) NB265_279.out _).trans (((cell_far (p := ⟨gb279, _, none⟩) NB265_279.out _).trans (((cell_far (p := ⟨gb279, _, none⟩) NB265_279.out _).trans (hHeld.2.2.1)))))))))), ((cell_far (p := ⟨gb279, _, none⟩) NB265_279.out _).trans (((cell_far (p := ⟨gb279, _, none⟩) NB265_279.out _).trans (((cell_far (p := ⟨gb279, _, none⟩) NB265_279.out _).trans (((cell_far (p := ⟨gb279, _, none⟩) NB265_279.out _).trans (((cell_far (p := ⟨gb279, _, none⟩) NB265_279.out _).trans (hHeld.2.2.2.1)))))))))), ((cell_far (p := ⟨gb279, _, none⟩) NB237_279.out _).trans (((cell_far (p := ⟨gb279, _, none⟩) NB237_279.out _).trans (((cell_far (p := ⟨gb279, _, none⟩) NB237_279.out _).trans (((cell_far (p := ⟨gb279, _, none⟩) NB237_279.out _).trans (((cell_far (p := ⟨gb279, _, none⟩) NB237_279.out _).trans (hHeld.2.2.2.2.1)))))))))), ((cell_far (p := ⟨gb279, _, none⟩) NB237_279.out _).trans (((cell_far (p := ⟨gb279, _, none⟩) NB237_279.out _).trans (((cell_far (p := ⟨gb279, _, none⟩) NB237_279.out _).trans (((cell_far (p := ⟨gb279, _, none⟩) NB237_279.out _).trans (((cell_far (p := ⟨gb279, _, none⟩) NB237_279.out _).trans (hHeld.2.2.2.2.2.1)))))))))), ((cell_far (p := ⟨gb279, _, none⟩) NB237_279.out _).trans (((cell_far (p := ⟨gb279, _, none⟩) NB237_279.out _).trans (((cell_far (p := ⟨gb279, _, none⟩) NB237_279.out _).trans (((cell_far (p := ⟨gb279, _, none⟩) NB237_279.out _).trans (((cell_far (p := ⟨gb279, _, none⟩) NB237_279.out _).trans (hHeld.2.2.2.2.2.2.1)))))))))), ((cell_far (p := ⟨gb279, _, none⟩) NB237_279.out _).trans (((cell_far (p := ⟨gb279, _, none⟩) NB237_279.out _).trans (((cell_far (p := ⟨gb279, _, none⟩) NB237_279.out _).trans (((cell_far (p := ⟨gb279, _, none⟩) NB237_279.out _).trans (((cell_far (p := ⟨gb279, _, none⟩) NB237_279.out _).trans (hHeld.2.2.2.2.2.2.2.1)))))))))), ((cell_far (p := ⟨gb279, _, none⟩) NB237_279.out _).trans (((cell_far (p := ⟨gb279, _, none⟩) NB237_279.out _).trans (((cell_far (p := ⟨gb279, _, none⟩) NB237_279.out _).trans (((cell_far (p := ⟨gb279, _, none⟩) NB237_279.out _).trans (((cell_far (p := ⟨gb279, _, none⟩) NB237_279.out _).trans (hHeld.2.2.2.2.2.2.2.2.1)))))))))), ((cell_far (p := ⟨gb279, _, none⟩) NB237_279.out _).trans (((cell_far (p := ⟨gb279, _, none⟩) NB237_279.out _).trans (((cell_far (p := ⟨gb279, _, none⟩) NB237_279.out _).trans (((cell_far (p := ⟨gb279, _, none⟩) NB237_279.out _).trans (((cell_far (p := ⟨gb279, _, none⟩) NB237_279.out _).trans (hHeld.2.2.2.2.2.2.2.2.2))))))))))⟩ (fun hHeld => ?_)
       clear hK K
       refine done_ (by kernel_rfl) ?_
       have hnb62 := NB279_236.out
       have hnc62 := NB236_279.out
       have hnb63 := NB279_237.out
       have hnc63 := NB237_279.out
       have hnb64 := NB279_258.out
       have hnc64 := NB258_279.out
       have hnb65 := NB279_265.out
       have hnc65 := NB265_279.out
       have hcz66_0 : w55.cell? ⟨gb279, 0, none⟩ = some (.int .i64 0) := bc BK279.out 0
       have hcz66_1 : w55.cell? ⟨gb279, 1, none⟩ = some (.int .i64 0) := bc BK279.out 1
       have hcz66_2 : w55.cell? ⟨gb279, 2, none⟩ = some (.int .i64 0) := bc BK279.out 2
       have hcz66_3 : w55.cell? ⟨gb279, 3, none⟩ = some (.int .i64 0) := bc BK279.out 3
       have hcz66_4 : w55.cell? ⟨gb279, 4, none⟩ = some (.slice none 0 0) := bc BK279.out 4
       have hfz66_0 := blk_frozen BK279.out 0
       have hfz66_1 := blk_frozen BK279.out 1
       have hfz66_2 := blk_frozen BK279.out 2
       have hfz66_3 := blk_frozen BK279.out 3
       have hfz66_4 := blk_frozen BK279.out 4
       have hnb67 := NB258_237.out
       have hnc67 := NB237_258.out
       have hcz68_0 : w55.cell? ⟨gb258, 0, none⟩ = some (.int .i64 t251) := bc BK258.out 0
       have hcz68_1 : w55.cell? ⟨gb258, 1, none⟩ = some (.int .i64 t252) := bc BK258.out 1
       have hcz68_2 : w55.cell? ⟨gb258, 2, none⟩ = some (.int .i64 t253) := bc BK258.out 2
       have hcz68_3 : w55.cell? ⟨gb258, 3, none⟩ = some (.int .i64 t254) := bc BK258.out 3
       have hcz68_4 : w55.cell? ⟨gb258, 4, none⟩ = some (.slice Ao39 t255.length co39) := bc BK258.out 4
       have hfz68_0 := blk_frozen BK258.out 0
       have hfz68_1 := blk_frozen BK258.out 1
       have hfz68_2 := blk_frozen BK258.out 2
       have hfz68_3 := blk_frozen BK258.out 3
       have hfz68_4 := blk_frozen BK258.out 4
       try go_wp2_with (first | ((with_reducible refine gate_callee (f := 11) rfl ?_); refine goesL_ (some 31) rfl rfl Try.func11 (by kernel_rfl) rfl #[.agg #[.int .i64 t272, .int .i64 t273, .int .i64 t274, .int .i64 t275, .slice Ao60 t276.length co60], .agg #[.int .i64 t251, .int .i64 t252, .int .i64 t253, .int .i64 t254, .slice Ao39 t255.length co39]] rfl (by (try simp only [List.map_toArray, List.map_cons, List.map_nil]); first | done | rfl | (simp only [List.length_drop, List.length_take]; rfl)) ?_; (with_reducible refine (laws_eqFrame.calls k t272 t273 t274 t275 _ _ t276 t251 t252 t253 t254 _ _ t255 true _ ?side1 ?side2 ?side3 ?side4 A16.out).mono ?_); (case side1 => refine (Kd.R_reads' (e := 55) (base := w.heap.size) (ok := fun k_ => some k_ ≠ (.slice Ao39 t255.length co39 : Value).ownBlock) (n := t276.length) (c := co60) ?_).2.2; exact (by (with_reducible repeat (first | apply Kd.R_alloc | apply Kd.R_drewN | apply Kd.R_drew)); exact (Kd.R_mono (Kd.R_far (p := ⟨gb279, 4, none⟩) (Kd.R_far (p := ⟨gb279, 3, none⟩) (Kd.R_far (p := ⟨gb279, 2, none⟩) (Kd.R_far (p := ⟨gb279, 1, none⟩) (Kd.R_far (p := ⟨gb279, 0, none⟩) (Kd.R_types HO278.out BK279.out (by decide)) (fun _ hk => hk.2) (.int .i64 t272)) (fun _ hk => hk.2) (.int .i64 t273)) (fun _ hk => hk.2) (.int .i64 t274)) (fun _ hk => hk.2) (.int .i64 t275)) (fun _ hk => hk.2) (.slice Ao60 t276.length co60)) (fun _ h_ => h_.1)))); (case side2 => exact (Kd.R_reads' HO278.out).2.1); (case side3 => refine (Kd.R_reads' (e := 55) (base := w.heap.size) (ok := fun k_ => some k_ ≠ (.slice Ao60 t276.length co60 : Value).ownBlock) (n := t255.length) (c := co39) ?_).2.2; exact (by (with_reducible repeat (first | apply Kd.R_alloc | apply Kd.R_drewN | apply Kd.R_drew)); exact (Kd.R_mono (Kd.R_far (p := ⟨gb279, 4, none⟩) (Kd.R_far (p := ⟨gb279, 3, none⟩) (Kd.R_far (p := ⟨gb279, 2, none⟩) (Kd.R_far (p := ⟨gb279, 1, none⟩) (Kd.R_far (p := ⟨gb279, 0, none⟩) (Kd.R_types HO257.out BK279.out (by decide)) (fun _ hk => hk.2) (.int .i64 t272)) (fun _ hk => hk.2) (.int .i64 t273)) (fun _ hk => hk.2) (.int .i64 t274)) (fun _ hk => hk.2) (.int .i64 t275)) (fun _ hk => hk.2) (.slice Ao60 t276.length co60)) (fun _ h_ => h_.1)))); (case side4 => exact (Kd.R_reads' HO257.out).2.1); rintro e w69 ⟨rfl, hb⟩; refine ⟨_, rfl, ?_⟩; have n0_ := m0 (Kd.S_below (by (with_reducible repeat (first | apply Kd.S_alloc | apply Kd.S_drewN | apply Kd.S_drew)); exact (Kd.S_mono (Kd.S_far (p := ⟨gb279, 4, none⟩) (Kd.S_far (p := ⟨gb279, 3, none⟩) (Kd.S_far (p := ⟨gb279, 2, none⟩) (Kd.S_far (p := ⟨gb279, 1, none⟩) (Kd.S_far (p := ⟨gb279, 0, none⟩) (Kd.S_types HO244.out BK279.out (by decide)) (fun _ hk => hk.2) (.int .i64 t272)) (fun _ hk => hk.2) (.int .i64 t273)) (fun _ hk => hk.2) (.int .i64 t274)) (fun _ hk => hk.2) (.int .i64 t275)) (fun _ hk => hk.2) (.slice Ao60 t276.length co60)) (fun _ h_ => h_.1))) hb); have n1_ := m0 (Kd.R_below (by (with_reducible repeat (first | apply Kd.R_alloc | apply Kd.R_drewN | apply Kd.R_drew)); exact (Kd.R_mono (Kd.R_far (p := ⟨gb279, 4, none⟩) (Kd.R_far (p := ⟨gb279, 3, none⟩) (Kd.R_far (p := ⟨gb279, 2, none⟩) (Kd.R_far (p := ⟨gb279, 1, none⟩) (Kd.R_far (p := ⟨gb279, 0, none⟩) (Kd.R_types HO257.out BK279.out (by decide)) (fun _ hk => hk.2) (.int .i64 t272)) (fun _ hk => hk.2) (.int .i64 t273)) (fun _ hk => hk.2) (.int .i64 t274)) (fun _ hk => hk.2) (.int .i64 t275)) (fun _ hk => hk.2) (.slice Ao60 t276.length co60)) (fun _ h_ => h_.1))) hb); have n2_ := m0 (Kd.S_below (by (with_reducible repeat (first | apply Kd.S_alloc | apply Kd.S_drewN | apply Kd.S_drew)); exact (Kd.S_mono (Kd.S_far (p := ⟨gb279, 4, none⟩) (Kd.S_far (p := ⟨gb279, 3, none⟩) (Kd.S_far (p := ⟨gb279, 2, none⟩) (Kd.S_far (p := ⟨gb279, 1, none⟩) (Kd.S_far (p := ⟨gb279, 0, none⟩) (Kd.S_types HO264.out BK279.out (by decide)) (fun _ hk => hk.2) (.int .i64 t272)) (fun _ hk => hk.2) (.int .i64 t273)) (fun _ hk => hk.2) (.int .i64 t274)) (fun _ hk => hk.2) (.int .i64 t275)) (fun _ hk => hk.2) (.slice Ao60 t276.length co60)) (fun _ h_ => h_.1))) hb); have n3_ := m0 (Kd.R_below (by (with_reducible repeat (first | apply Kd.R_alloc | apply Kd.R_drewN | apply Kd.R_drew)); exact (Kd.R_mono (Kd.R_far (p := ⟨gb279, 4, none⟩) (Kd.R_far (p := ⟨gb279, 3, none⟩) (Kd.R_far (p := ⟨gb279, 2, none⟩) (Kd.R_far (p := ⟨gb279, 1, none⟩) (Kd.R_far (p := ⟨gb279, 0, none⟩) (Kd.R_types HO278.out BK279.out (by decide)) (fun _ hk => hk.2) (.int .i64 t272)) (fun _ hk => hk.2) (.int .i64 t273)) (fun _ hk => hk.2) (.int .i64 t274)) (fun _ hk => hk.2) (.int .i64 t275)) (fun _ hk => hk.2) (.slice Ao60 t276.length co60)) (fun _ h_ => h_.1))) hb); have n4_ := m0 (blk_below (g := gb236) (o := .cells #[.int .i64 a0_0, .int .i64 a0_1, .int .i64 a0_2, .slice A0_3 l0_3.length c0_3] 24 (0, 0)) (by (with_reducible repeat (first | refine blk_drewN ?_ _ | refine blk_drew ?_ | refine blk_alloc ?_ _)); refine blk_far ?_ NB236_279.out _; (with_reducible repeat (first | refine blk_drewN ?_ _ | refine blk_drew ?_ | refine blk_alloc ?_ _)); refine blk_far ?_ NB236_279.out _; (with_reducible repeat (first | refine blk_drewN ?_ _ | refine blk_drew ?_ | refine blk_alloc ?_ _)); refine blk_far ?_ NB236_279.out _; (with_reducible repeat (first | refine blk_drewN ?_ _ | refine blk_drew ?_ | refine blk_alloc ?_ _)); refine blk_far ?_ NB236_279.out _; (with_reducible repeat (first | refine blk_drewN ?_ _ | refine blk_drew ?_ | refine blk_alloc ?_ _)); refine blk_far ?_ NB236_279.out _; (with_reducible repeat (first | refine blk_drewN ?_ _ | refine blk_drew ?_ | refine blk_alloc ?_ _)); exact BK236.out) hb); have n5_ := m0 (blk_below (g := gb237) (o := .cells #[.int .i64 a1_0, .int .i64 a1_1, .int .i64 a1_2, .int .i64 a1_3, .bool a1_4, .bool a1_5] 26 (0, 0)) (by (with_reducible repeat (first | refine blk_drewN ?_ _ | refine blk_drew ?_ | refine blk_alloc ?_ _)); refine blk_far ?_ NB237_279.out _; (with_reducible repeat (first | refine blk_drewN ?_ _ | refine blk_drew ?_ | refine blk_alloc ?_ _)); refine blk_far ?_ NB237_279.out _; (with_reducible repeat (first | refine blk_drewN ?_ _ | refine blk_drew ?_ | refine blk_alloc ?_ _)); refine blk_far ?_ NB237_279.out _; (with_reducible repeat (first | refine blk_drewN ?_ _ | refine blk_drew ?_ | refine blk_alloc ?_ _)); refine blk_far ?_ NB237_279.out _; (with_reducible repeat (first | refine blk_drewN ?_ _ | refine blk_drew ?_ | refine blk_alloc ?_ _)); refine blk_far ?_ NB237_279.out _; (with_reducible repeat (first | refine blk_drewN ?_ _ | refine blk_drew ?_ | refine blk_alloc ?_ _)); exact BK237.out) hb); have n6_ := m0 (blk_below (g := gb258) (o := .cells #[.int .i64 t251, .int .i64 t252, .int .i64 t253, .int .i64 t254, .slice Ao39 t255.length co39] 30 (0, 0)) (by (with_reducible repeat (first | refine blk_drewN ?_ _ | refine blk_drew ?_ | refine blk_alloc ?_ _)); refine blk_far ?_ NB258_279.out _; (with_reducible repeat (first | refine blk_drewN ?_ _ | refine blk_drew ?_ | refine blk_alloc ?_ _)); refine blk_far ?_ NB258_279.out _; (with_reducible repeat (first | refine blk_drewN ?_ _ | refine blk_drew ?_ | refine blk_alloc ?_ _)); refine blk_far ?_ NB258_279.out _; (with_reducible repeat (first | refine blk_drewN ?_ _ | refine blk_drew ?_ | refine blk_alloc ?_ _)); refine blk_far ?_ NB258_279.out _; (with_reducible repeat (first | refine blk_drewN ?_ _ | refine blk_drew ?_ | refine blk_alloc ?_ _)); refine blk_far ?_ NB258_279.out _; (with_reducible repeat (first | refine blk_drewN ?_ _ | refine blk_drew ?_ | refine blk_alloc ?_ _)); exact BK258.out) hb); have n7_ := m0 (blk_below (g := gb265) (o := .cells #[.int .i64 t259, .int .i64 t260, .int .i64 t261, .slice Ao49 t262.length co49] 32 (0, 0)) (by (with_reducible repeat (first | refine blk_drewN ?_ _ | refine blk_drew ?_ | refine blk_alloc ?_ _)); refine blk_far ?_ NB265_279.out _; (with_reducible repeat (first | refine blk_drewN ?_ _ | refine blk_drew ?_ | refine blk_alloc ?_ _)); refine blk_far ?_ NB265_279.out _; (with_reducible repeat (first | refine blk_drewN ?_ _ | refine blk_drew ?_ | refine blk_alloc ?_ _)); refine blk_far ?_ NB265_279.out _; (with_reducible repeat (first | refine blk_drewN ?_ _ | refine blk_drew ?_ | refine blk_alloc ?_ _)); refine blk_far ?_ NB265_279.out _; (with_reducible repeat (first | refine blk_drewN ?_ _ | refine blk_drew ?_ | refine blk_alloc ?_ _)); refine blk_far ?_ NB265_279.out _; (with_reducible repeat (first | refine blk_drewN ?_ _ | refine blk_drew ?_ | refine blk_alloc ?_ _)); exact BK265.out) hb); have n8_ := m0 (blk_below (g := gb279) (o := .cells #[.int .i64 t272, .int .i64 t273, .int .i64 t274, .int .i64 t275, .slice Ao60 t276.length co60] 30 (0, 0)) (by (with_reducible repeat (first | refine blk_drewN ?_ _ | refine blk_drew ?_ | refine blk_alloc ?_ _)); refine blk_put (cs := #[.int .i64 t272, .int .i64 t273, .int .i64 t274, .int .i64 t275, .slice none 0 0]) ?_ 4 _ rfl; (with_reducible repeat (first | refine blk_drewN ?_ _ | refine blk_drew ?_ | refine blk_alloc ?_ _)); refine blk_put (cs := #[.int .i64 t272, .int .i64 t273, .int .i64 t274, .int .i64 0, .slice none 0 0]) ?_ 3 _ rfl; (with_reducible repeat (first | refine blk_drewN ?_ _ | refine blk_drew ?_ | refine blk_alloc ?_ _)); refine blk_put (cs := #[.int .i64 t272, .int .i64 t273, .int .i64 0, .int .i64 0, .slice none 0 0]) ?_ 2 _ rfl; (with_reducible repeat (first | refine blk_drewN ?_ _ | refine blk_drew ?_ | refine blk_alloc ?_ _)); refine blk_put (cs := #[.int .i64 t272, .int .i64 0, .int .i64 0, .int .i64 0, .slice none 0 0]) ?_ 1 _ rfl; (with_reducible repeat (first | refine blk_drewN ?_ _ | refine blk_drew ?_ | refine blk_alloc ?_ _)); refine blk_put (cs := #[.int .i64 0, .int .i64 0, .int .i64 0, .int .i64 0, .slice none 0 0]) ?_ 0 _ rfl; (with_reducible repeat (first | refine blk_drewN ?_ _ | refine blk_drew ?_ | refine blk_alloc ?_ _)); exact BK279.out) hb); have n9_ := m0 (below_step (by repeat (first | (with_reducible exact HB.out) | apply below_alloc | apply pw_below_drewN | apply below_drew1 | refine below_set ?_ (Aside0.out (by assumption)))) hb); clear HO244 HO257 HO264 HO278 BK236 BK237 BK258 BK265 BK279 HB; have HO244 := n0_; have HO257 := n1_; have HO264 := n2_; have HO278 := n3_; have BK236 := n4_; have BK237 := n5_; have BK258 := n6_; have BK265 := n7_; have BK279 := n8_; have HB := n9_; clear n0_ n1_ n2_ n3_ n4_ n5_ n6_ n7_ n8_ n9_; (try clear hb); (try clear hb2); (try clear hk); (try clear hi)))
       have n0_ := m0 (Kd.S_drew HO244.out)
       have n1_ := m0 (Kd.R_drew HO257.out)
       have n2_ := m0 (Kd.S_drew HO264.out)
       have n3_ := m0 (Kd.R_drew HO278.out)
       have n4_ := m0 (blk_drew BK236.out)
       have n5_ := m0 (blk_drew BK237.out)
       have n6_ := m0 (blk_drew BK258.out)
       have n7_ := m0 (blk_drew BK265.out)
       have n8_ := m0 (blk_drew BK279.out)
       have n9_ := m0 (below_drew1 HB.out)
       clear HO244 HO257 HO264 HO278 BK236 BK237 BK258 BK265 BK279 HB
       have HO244 := n0_
       have HO257 := n1_
       have HO264 := n2_
       have HO278 := n3_
       have BK236 := n4_
       have BK237 := n5_
       have BK258 := n6_
       have BK265 := n7_
       have BK279 := n8_
       have HB := n9_
       clear n0_ n1_ n2_ n3_ n4_ n5_ n6_ n7_ n8_ n9_
       refine start_ (n := 5) (S := fun w' => w'.cell? ⟨gb265, 0, none⟩ = some (.int .i64 t259) ∧ w'.cell? ⟨gb265, 1, none⟩ = some (.int .i64 t260) ∧ w'.cell? ⟨gb265, 2, none⟩ = some (.int .i64 t261) ∧ w'.cell? ⟨gb265, 3, none⟩ = some (.slice Ao49 t262.length co49) ∧ w'.cell? ⟨gb236, 0, none⟩ = some (.int .i64 a0_0) ∧ w'.cell? ⟨gb236, 1, none⟩ = some (.int .i64 a0_1) ∧ w'.cell? ⟨gb236, 2, none⟩ = some (.int .i64 a0_2) ∧ w'.cell? ⟨gb236, 3, none⟩ = some (.slice A0_3 l0_3.length c0_3)) (ds := []) #[false, false, false, false, false] (by kernel_rfl) rfl rfl ⟨bc BK265.out 0, bc BK265.out 1, bc BK265.out 2, bc BK265.out 3, bc BK236.out 0, bc BK236.out 1, bc BK236.out 2, bc BK236.out 3⟩ (fun hHeld => ?_)
       generalize w69.drew = w70 at HO244 HO257 HO264 HO278 BK236 BK237 BK258 BK265 BK279 HB hHeld ⊢
       refine take_ (i := 0) (N := some 33) (v := ?_) (a' := ?_) #[true, false, false, false, false] rfl rfl (by kernel_rfl) (fun _ _ _ h => h) (Or.inl ⟨by rfl, ?_⟩) hHeld ?_ ?_
       rotate_left
       · rintro w' ⟨s0, s1, s2, s3, s4, s5, s6, s7⟩
         go_simp
         with_reducible rfl
       rotate_left
       · simp only [Act.put, List.setIfInBounds_toArray, List.set_cons_zero, List.set_cons_succ, i64_w, i32_w]
         rfl
       refine take_ (i := 1) (N := some 34) (v := ?_) (a' := ?_) #[true, true, false, false, false] rfl rfl (by kernel_rfl) (fun _ _ _ h => h) (Or.inl ⟨by rfl, ?_⟩) hHeld ?_ ?_
       rotate_left
       · rintro w' ⟨s0, s1, s2, s3, s4, s5, s6, s7⟩
         go_simp
         with_reducible rfl
       rotate_left
       · simp only [Act.put, List.setIfInBounds_toArray, List.set_cons_zero, List.set_cons_succ, i64_w, i32_w]
         rfl
       refine one_ (i := 2) (N := some 35) #[true, true, true, false, false] rfl rfl (by kernel_rfl) (by decide) (fun K hK => ?_)
       refine goes_ Try.func8 (by kernel_rfl) rfl #[.agg #[.int .i64 a0_0, .int .i64 a0_1, .int .i64 a0_2, .slice A0_3 l0_3.length c0_3]] (by rfl) rfl rfl (by (try simp only [List.map_toArray, List.map_cons, List.map_nil]); first | done | rfl | (simp only [List.length_drop, List.length_take]; rfl)) ?_
       with_reducible refine (laws_toPicture.calls k a0_0 a0_1 a0_2 _ _ l0_3 t281 t282 t283 t284 _ ?side1 ?side2 A18.out).mono ?_
       (case side1 => repeat (first | exact (Kd.C_below HR0_3.out HB.out) | (with_reducible refine Kd.C_alloc ?_ _) | (with_reducible refine Kd.C_drewN ?_ _) | (with_reducible refine Kd.C_drew ?_)))
       (case side2 => exact HC0_3.out)
       rintro e w71 ⟨v285, rfl, ho0, hb⟩
       refine ⟨_, rfl, ?_⟩
       have n0_ := m0 (Kd.S_elder' (sW HO244.out) (Kd.S_base ho0) hb)
       have n1_ := m0 (Kd.R_below (rW HO257.out) hb)
       have n2_ := m0 (Kd.S_elder' (sW HO264.out) (Kd.S_base ho0) hb)
       have n3_ := m0 (Kd.R_below (rW HO278.out) hb)
       have n4_ := m0 (Kd.S_lower (Kd.S_new' (Kd.S_new' ho0 (Kd.S_lt (sW HO244.out))) (Kd.S_lt (sW HO264.out))) (below_size (by repeat (first | (with_reducible exact HB.out) | apply below_alloc | apply pw_below_drewN | apply below_drew1 | refine below_set ?_ (Aside0.out (by assumption))))))
       have n5_ := m0 (blk_below (bkW BK236.out) hb)
       have n6_ := m0 (blk_below (bkW BK237.out) hb)
       have n7_ := m0 (blk_below (bkW BK258.out) hb)
       have n8_ := m0 (blk_below (bkW BK265.out) hb)
       have n9_ := m0 (blk_below (bkW BK279.out) hb)
       have n10_ := m0 (below_step (by repeat (first | (with_reducible exact HB.out) | apply below_alloc | apply pw_below_drewN | apply below_drew1 | refine below_set ?_ (Aside0.out (by assumption)))) hb)
       clear HO244 HO257 HO264 HO278 BK236 BK237 BK258 BK265 BK279 HB
       have HO244 := n0_
       have HO257 := n1_
       have HO264 := n2_
       have HO278 := n3_
       have HO286 := n4_
       have BK236 := n5_
       have BK237 := n6_
       have BK258 := n7_
       have BK265 := n8_
       have BK279 := n9_
       have HB := n10_
       clear n0_ n1_ n2_ n3_ n4_ n5_ n6_ n7_ n8_ n9_ n10_
       (try clear hb)
       (try clear hb2)
       (try clear hk)
       (try clear hi)
       (try clear ho0)
       obtain ⟨Ao72, co72, eo72⟩ := Kd.S_slice HO286.out
       (first | subst eo72 | (injection eo72 with f1_ f2_ f3_; have f4_ := f1_.symm; have f5_ := f3_.symm; clear f1_ f2_ f3_; subst f4_; subst f5_))
       refine hK.out _ _ ⟨bc BK265.out 0, bc BK265.out 1, bc BK265.out 2, bc BK265.out 3, bc BK236.out 0, bc BK236.out 1, bc BK236.out 2, bc BK236.out 3⟩ (fun hHeld => ?_)
       clear hK K
       refine norm_ (a' := ?_) ?_ ?_
       rotate_left
       · show Act.put _ (some 35) _ = _
         simp only [Act.put, List.setIfInBounds_toArray, List.set_cons_zero, List.set_cons_succ, i64_w, i32_w]
         rfl
       refine one_ (i := 3) (N := some 36) #[true, true, true, true, false] rfl rfl (by kernel_rfl) (by decide) (fun K hK => ?_)
       refine goes_ Try.func12 (by kernel_rfl) rfl #[.agg #[.int .i64 t259, .int .i64 t260, .int .i64 t261, .slice Ao49 t262.length co49], .agg #[.int .i64 t281, .int .i64 t282, .int .i64 t283, .slice Ao72 t284.length co72]] (by rfl) rfl rfl (by (try simp only [List.map_toArray, List.map_cons, List.map_nil]); first | done | rfl | (simp only [List.length_drop, List.length_take]; rfl)) ?_
       with_reducible refine (laws_eqPicture.calls k t259 t260 t261 _ _ t262 t281 t282 t283 _ _ t284 true _ ?side1 ?side2 ?side3 ?side4 A19.out).mono ?_
       (case side1 => repeat (first | exact (Kd.S_reads' HO264.out).2.2 | (with_reducible refine Kd.C_alloc ?_ _) | (with_reducible refine Kd.C_drewN ?_ _) | (with_reducible refine Kd.C_drew ?_)))
       (case side2 => exact (Kd.S_reads' HO264.out).2.1)
       (case side3 => repeat (first | exact (Kd.S_reads' HO286.out).2.2 | (with_reducible refine Kd.C_alloc ?_ _) | (with_reducible refine Kd.C_drewN ?_ _) | (with_reducible refine Kd.C_drew ?_)))
       (case side4 => exact (Kd.S_reads' HO286.out).2.1)
       rintro e w73 ⟨rfl, hb⟩
       refine ⟨_, rfl, ?_⟩
       have n0_ := m0 (Kd.S_below (sW HO244.out) hb)
       have n1_ := m0 (Kd.R_below (rW HO257.out) hb)
       have n2_ := m0 (Kd.S_below (sW HO264.out) hb)
       have n3_ := m0 (Kd.R_below (rW HO278.out) hb)
       have n4_ := m0 (Kd.S_below (sW HO286.out) hb)
       have n5_ := m0 (blk_below (bkW BK236.out) hb)
       have n6_ := m0 (blk_below (bkW BK237.out) hb)
       have n7_ := m0 (blk_below (bkW BK258.out) hb)
       have n8_ := m0 (blk_below (bkW BK265.out) hb)
       have n9_ := m0 (blk_below (bkW BK279.out) hb)
       have n10_ := m0 (below_step (by repeat (first | (with_reducible exact HB.out) | apply below_alloc | apply pw_below_drewN | apply below_drew1 | refine below_set ?_ (Aside0.out (by assumption)))) hb)
       clear HO244 HO257 HO264 HO278 HO286 BK236 BK237 BK258 BK265 BK279 HB
       have HO244 := n0_
       have HO257 := n1_
       have HO264 := n2_
       have HO278 := n3_
       have HO286 := n4_
       have BK236 := n5_
       have BK237 := n6_
       have BK258 := n7_
       have BK265 := n8_
       have BK279 := n9_
       have HB := n10_
       clear n0_ n1_ n2_ n3_ n4_ n5_ n6_ n7_ n8_ n9_ n10_
       (try clear hb)
       (try clear hb2)
       (try clear hk)
       (try clear hi)
       refine hK.out _ _ ⟨bc BK265.out 0, bc BK265.out 1, bc BK265.out 2, bc BK265.out 3, bc BK236.out 0, bc BK236.out 1, bc BK236.out 2, bc BK236.out 3⟩ (fun hHeld => ?_)
       clear hK K
       refine norm_ (a' := ?_) ?_ ?_
       rotate_left
       · show Act.put _ (some 36) _ = _
         simp only [Act.put, List.setIfInBounds_toArray, List.set_cons_zero, List.set_cons_succ, i64_w, i32_w]
         rfl
       refine pure_ (i := 4) (N := some 37) (v := ?_) (a' := ?_) #[true, true, true, true, true] rfl rfl (by kernel_rfl) (fun _ _ _ h => h) (Or.inl ⟨by rfl, ?_⟩) ?_ ?_
       rotate_left
       · intro w'
         go_simp
         with_reducible rfl
       rotate_left
       · simp only [Act.put, List.setIfInBounds_toArray, List.set_cons_zero, List.set_cons_succ, i64_w, i32_w]
         rfl
       refine done_ (by kernel_rfl) ?_
       have hcz74_0 : w73.cell? ⟨gb265, 0, none⟩ = some (.int .i64 t259) := bc BK265.out 0
       have hcz74_1 : w73.cell? ⟨gb265, 1, none⟩ = some (.int .i64 t260) := bc BK265.out 1
       have hcz74_2 : w73.cell? ⟨gb265, 2, none⟩ = some (.int .i64 t261) := bc BK265.out 2
       have hcz74_3 : w73.cell? ⟨gb265, 3, none⟩ = some (.slice Ao49 t262.length co49) := bc BK265.out 3
       have hfz74_0 := blk_frozen BK265.out 0
       have hfz74_1 := blk_frozen BK265.out 1
       have hfz74_2 := blk_frozen BK265.out 2
       have hfz74_3 := blk_frozen BK265.out 3
       go_upto_region 14 with (first | ((with_reducible refine gate_callee (f := 13) rfl ?_); refine goesL_ (some 40) rfl rfl Try.func13 (by kernel_rfl) rfl #[.agg #[.int .i64 t259, .int .i64 t260, .int .i64 t261, .slice Ao49 t262.length co49], .int .i64 1] rfl (by (try simp only [List.map_toArray, List.map_cons, List.map_nil]); first | done | rfl | (simp only [List.length_drop, List.length_take]; rfl)) ?_; (refine (laws_markPicture.calls k t259 t260 t261 _ (.slice Ao49 t262.length co49) t262 1 t288 t289 w _ ?side1 (by first | exact Kd.S_bound HO264.out | exact Kd.S_drewN (Kd.S_bound HO264.out) _) A21.out).mono ?_); (case side1 => repeat (first | (with_reducible first | exact HB.out | apply below_alloc | apply pw_below_drewN | apply below_drew1 | refine below_set ?_ (Aside0.out (by with_reducible assumption))) | exact HB.out)); rintro e w75 ⟨rfl, hy0, hb, hkp⟩; refine ⟨_, rfl, ?_⟩; ((first | (with_reducible have hq_ := blk_kept (blk_drewN BK236.out _) hkp) | (with_reducible have hq_ := blk_kept BK236.out hkp)); have n0_ := m0 (hq_ (fun hs_ => blkNo (bkW BK236.out) hs_.2.2.2 (by decide))); clear hq_); ((first | (with_reducible have hq_ := blk_kept (blk_drewN BK237.out _) hkp) | (with_reducible have hq_ := blk_kept BK237.out hkp)); have n1_ := m0 (hq_ (fun hs_ => blkNo (bkW BK237.out) hs_.2.2.2 (by decide))); clear hq_); have n2_ := m0 (keptT rfl (rW HO257.out) hkp (fun _ h_ => h_.2.2.2) (by decide)); ((first | (with_reducible have hq_ := blk_kept (blk_drewN BK258.out _) hkp) | (with_reducible have hq_ := blk_kept BK258.out hkp)); have n3_ := m0 (hq_ (fun hs_ => blkNo (bkW BK258.out) hs_.2.2.2 (by decide))); clear hq_); have n4_ := m0 (Kd.S_mono hy0 (fun _ h_ => h_.1)); ((first | (with_reducible have hq_ := blk_kept (blk_drewN BK265.out _) hkp) | (with_reducible have hq_ := blk_kept BK265.out hkp)); have n5_ := m0 (hq_ (fun hs_ => blkNo (bkW BK265.out) hs_.2.2.2 (by decide))); clear hq_); have n6_ := m0 (keptT rfl (rW HO278.out) hkp (fun _ h_ => h_.2.2.2) (by decide)); ((first | (with_reducible have hq_ := blk_kept (blk_drewN BK279.out _) hkp) | (with_reducible have hq_ := blk_kept BK279.out hkp)); have n7_ := m0 (hq_ (fun hs_ => blkNo (bkW BK279.out) hs_.2.2.2 (by decide))); clear hq_); have n8_ := m0 (hb); clear BK236 BK237 HO257 BK258 HO264 BK265 HO278 BK279 HB; have BK236 := n0_; have BK237 := n1_; have HO257 := n2_; have BK258 := n3_; have HO264 := n4_; have BK265 := n5_; have HO278 := n6_; have BK279 := n7_; have HB := n8_; clear n0_ n1_ n2_ n3_ n4_ n5_ n6_ n7_ n8_; (try clear hb); (try clear hkp); (try clear hy0)))
       (try simp only [Act.put, List.setIfInBounds_toArray, List.set_cons_zero, List.set_cons_succ])
       go_cut [48] (fun v48 wc => ∃ (kq : Nat) (x48_21 : Bool), v48 = .bool x48_21 ∧ Aside0 (laws_FnExactFrameFor.j0 kq x48_21 a0_0 a0_1 a0_2 l0_3 a1_0 a1_1 a1_2 a1_3 a1_4 a1_5 t251 t252 t253 t254 t255 t272 t273 t274 t275 t276 = some r) ∧ Aside0 (kq ≤ k) ∧ Aside0 (Kd.R k55 55 wc w.heap.size (fun k_ => some k_ ≠ ((.slice Ao60 t276.length co60) : Value).ownBlock) (.slice Ao39 t255.length co39) t255) ∧ Aside0 (Kd.S (Kd.slice 3 (Kd.int .i64)) 41 wc w.heap.size (fun _ => True) (.slice Ao49 t262.length co49) t289) ∧ Aside0 (Kd.R k55 55 wc w.heap.size (fun k_ => some k_ ≠ ((.slice Ao39 t255.length co39) : Value).ownBlock) (.slice Ao60 t276.length co60) t276) ∧ Aside0 (wc.heap[gb236]? = some (.cells #[.int .i64 a0_0, .int .i64 a0_1, .int .i64 a0_2, (.slice A0_3 l0_3.length c0_3)] 24 (0, 0))) ∧ Aside0 (wc.heap[gb237]? = some (.cells #[.int .i64 a1_0, .int .i64 a1_1, .int .i64 a1_2, .int .i64 a1_3, .bool a1_4, .bool a1_5] 26 (0, 0))) ∧ Aside0 (wc.heap[gb258]? = some (.cells #[.int .i64 t251, .int .i64 t252, .int .i64 t253, .int .i64 t254, (.slice Ao39 t255.length co39)] 30 (0, 0))) ∧ Aside0 (wc.heap[gb265]? = some (.cells #[.int .i64 t259, .int .i64 t260, .int .i64 t261, (.slice Ao49 t262.length co49)] 32 (0, 0))) ∧ Aside0 (wc.heap[gb279]? = some (.cells #[.int .i64 t272, .int .i64 t273, .int .i64 t274, .int .i64 t275, (.slice Ao60 t276.length co60)] 30 (0, 0))) ∧ Aside0 (Below w.heap.size w wc))
       case first =>
        have H := HC22.out
        clear HC22
        by_cases c76 : t288 < 0
        · rw [if_pos c76] at H
          have c76b0 : decide (t288 < 0) = true := decide_eq_true c76
          clear c76
          (first | rw [c76b0] | (simp only [i64_w, i32_w]; rw [c76b0]) | skip)
          have H' := Aside0.mk H
          clear H
          go_wp2
          go_meet
          case rel => exact ⟨_, (true), (by first | rfl | (simp; done) | (simp [*]; done)), H', ⟨by first | omega | exact Nat.le_refl _⟩, ⟨by (with_reducible repeat (first | apply Kd.R_alloc | apply Kd.R_drewN | apply Kd.R_drew)); exact HO257.out⟩, ⟨by (with_reducible repeat (first | apply Kd.S_alloc | apply Kd.S_drewN | apply Kd.S_drew)); exact Kd.S_mono HO264.out (fun _ hk => trivial)⟩, ⟨by (with_reducible repeat (first | apply Kd.R_alloc | apply Kd.R_drewN | apply Kd.R_drew)); exact HO278.out⟩, ⟨by (with_reducible repeat (first | refine blk_drewN ?_ _ | refine blk_drew ?_ | refine blk_alloc ?_ _)); exact BK236.out⟩, ⟨by (with_reducible repeat (first | refine blk_drewN ?_ _ | refine blk_drew ?_ | refine blk_alloc ?_ _)); exact BK237.out⟩, ⟨by (with_reducible repeat (first | refine blk_drewN ?_ _ | refine blk_drew ?_ | refine blk_alloc ?_ _)); exact BK258.out⟩, ⟨by (with_reducible repeat (first | refine blk_drewN ?_ _ | refine blk_drew ?_ | refine blk_alloc ?_ _)); exact BK265.out⟩, ⟨by (with_reducible repeat (first | refine blk_drewN ?_ _ | refine blk_drew ?_ | refine blk_alloc ?_ _)); exact BK279.out⟩, ⟨by repeat (first | (with_reducible first | exact HB.out | apply below_alloc | apply pw_below_drewN | apply below_drew1 | refine below_set ?_ (Aside0.out (by with_reducible assumption))) | exact HB.out)⟩⟩
        · rw [if_neg c76] at H
          have c76b0 : decide (t288 < 0) = false := decide_eq_false c76
          clear c76
          (first | rw [c76b0] | (simp only [i64_w, i32_w]; rw [c76b0]) | skip)
          replace H := Option.bind_eq_some_iff.mp H
          obtain ⟨t290, A770, H⟩ := H
          replace H : (laws_FnExactFrameFor.j0 k (!t290) a0_0 a0_1 a0_2 l0_3 a1_0 a1_1 a1_2 a1_3 a1_4 a1_5 t251 t252 t253 t254 t255 t272 t273 t274 t275 t276) = some r := H
          have A77 := Aside0.mk A770
          clear A770
          have H' := Aside0.mk H
          clear H
          have hnb78 := NB279_236.out
          have hnc78 := NB236_279.out
          have hnb79 := NB279_237.out
          have hnc79 := NB237_279.out
          have hnb80 := NB279_258.out
          have hnc80 := NB258_279.out
          have hnb81 := NB279_265.out
          have hnc81 := NB265_279.out
          have hcz82_0 : w75.cell? ⟨gb279, 0, none⟩ = some (.int .i64 t272) := bc BK279.out 0
          have hcz82_1 : w75.cell? ⟨gb279, 1, none⟩ = some (.int .i64 t273) := bc BK279.out 1
          have hcz82_2 : w75.cell? ⟨gb279, 2, none⟩ = some (.int .i64 t274) := bc BK279.out 2
          have hcz82_3 : w75.cell? ⟨gb279, 3, none⟩ = some (.int .i64 t275) := bc BK279.out 3
          have hcz82_4 : w75.cell? ⟨gb279, 4, none⟩ = some (.slice Ao60 t276.length co60) := bc BK279.out 4
          have hfz82_0 := blk_frozen BK279.out 0
          have hfz82_1 := blk_frozen BK279.out 1
          have hfz82_2 := blk_frozen BK279.out 2
          have hfz82_3 := blk_frozen BK279.out 3
          have hfz82_4 := blk_frozen BK279.out 4
          have hnb83 := NB258_236.out
          have hnc83 := NB236_258.out
          have hnb84 := NB258_237.out
          have hnc84 := NB237_258.out
          have hnb85 := NB258_265.out
          have hnc85 := NB265_258.out
          have hcz86_0 : w75.cell? ⟨gb258, 0, none⟩ = some (.int .i64 t251) := bc BK258.out 0
          have hcz86_1 : w75.cell? ⟨gb258, 1, none⟩ = some (.int .i64 t252) := bc BK258.out 1
          have hcz86_2 : w75.cell? ⟨gb258, 2, none⟩ = some (.int .i64 t253) := bc BK258.out 2
          have hcz86_3 : w75.cell? ⟨gb258, 3, none⟩ = some (.int .i64 t254) := bc BK258.out 3
          have hcz86_4 : w75.cell? ⟨gb258, 4, none⟩ = some (.slice Ao39 t255.length co39) := bc BK258.out 4
          have hfz86_0 := blk_frozen BK258.out 0
          have hfz86_1 := blk_frozen BK258.out 1
          have hfz86_2 := blk_frozen BK258.out 2
          have hfz86_3 := blk_frozen BK258.out 3
          have hfz86_4 := blk_frozen BK258.out 4
          go_wp2_with (first | (go_at_call 11; (with_reducible refine (laws_eqFrame.calls k t272 t273 t274 t275 _ _ t276 t251 t252 t253 t254 _ _ t255 t290 _ ?side1 ?side2 ?side3 ?side4 A77.out).mono ?_); (case side1 => repeat (first | exact (Kd.R_reads' HO278.out).2.2 | (with_reducible refine Kd.C_alloc ?_ _) | (with_reducible refine Kd.C_drewN ?_ _) | (with_reducible refine Kd.C_drew ?_))); (case side2 => exact (Kd.R_reads' HO278.out).2.1); (case side3 => repeat (first | exact (Kd.R_reads' HO257.out).2.2 | (with_reducible refine Kd.C_alloc ?_ _) | (with_reducible refine Kd.C_drewN ?_ _) | (with_reducible refine Kd.C_drew ?_))); (case side4 => exact (Kd.R_reads' HO257.out).2.1); rintro e w87 ⟨rfl, hb⟩; have n0_ := m0 (Kd.R_below (rW HO257.out) hb); have n1_ := m0 (Kd.S_below (sW HO264.out) hb); have n2_ := m0 (Kd.R_below (rW HO278.out) hb); have n3_ := m0 (blk_below (bkW BK236.out) hb); have n4_ := m0 (blk_below (bkW BK237.out) hb); have n5_ := m0 (blk_below (bkW BK258.out) hb); have n6_ := m0 (blk_below (bkW BK265.out) hb); have n7_ := m0 (blk_below (bkW BK279.out) hb); have n8_ := m0 (below_step (by repeat (first | (with_reducible exact HB.out) | apply below_alloc | apply pw_below_drewN | apply below_drew1 | refine below_set ?_ (Aside0.out (by assumption)))) hb); clear HO257 HO264 HO278 BK236 BK237 BK258 BK265 BK279 HB; have HO257 := n0_; have HO264 := n1_; have HO278 := n2_; have BK236 := n3_; have BK237 := n4_; have BK258 := n5_; have BK265 := n6_; have BK279 := n7_; have HB := n8_; clear n0_ n1_ n2_ n3_ n4_ n5_ n6_ n7_ n8_; (try clear hb); (try clear hb2); (try clear hk); (try clear hi)))
          go_meet
          case rel => exact ⟨_, (!t290), (by first | rfl | (simp; done) | (simp [*]; done)), H', ⟨by first | omega | exact Nat.le_refl _⟩, ⟨by (with_reducible repeat (first | apply Kd.R_alloc | apply Kd.R_drewN | apply Kd.R_drew)); exact HO257.out⟩, ⟨by (with_reducible repeat (first | apply Kd.S_alloc | apply Kd.S_drewN | apply Kd.S_drew)); exact Kd.S_mono HO264.out (fun _ hk => trivial)⟩, ⟨by (with_reducible repeat (first | apply Kd.R_alloc | apply Kd.R_drewN | apply Kd.R_drew)); exact HO278.out⟩, ⟨by (with_reducible repeat (first | refine blk_drewN ?_ _ | refine blk_drew ?_ | refine blk_alloc ?_ _)); exact BK236.out⟩, ⟨by (with_reducible repeat (first | refine blk_drewN ?_ _ | refine blk_drew ?_ | refine blk_alloc ?_ _)); exact BK237.out⟩, ⟨by (with_reducible repeat (first | refine blk_drewN ?_ _ | refine blk_drew ?_ | refine blk_alloc ?_ _)); exact BK258.out⟩, ⟨by (with_reducible repeat (first | refine blk_drewN ?_ _ | refine blk_drew ?_ | refine blk_alloc ?_ _)); exact BK265.out⟩, ⟨by (with_reducible repeat (first | refine blk_drewN ?_ _ | refine blk_drew ?_ | refine blk_alloc ?_ _)); exact BK279.out⟩, ⟨by repeat (first | (with_reducible first | exact HB.out | apply below_alloc | apply pw_below_drewN | apply below_drew1 | refine below_set ?_ (Aside0.out (by with_reducible assumption))) | exact HB.out)⟩⟩
       case rest =>
        clear HC22
        try clear c1
        try clear p2
        try clear c6
        try clear c7
        try clear c8
        try clear c9
        try clear c10
        try clear c11
        try clear c12
        try clear c13
        try clear c62
        try clear c63
        try clear c64
        try clear c65
        try clear c67
        try clear c76
        try clear c76b0
        try clear c78
        try clear c79
        try clear c80
        try clear c81
        try clear c83
        try clear c84
        try clear c85
        try clear hcz66_0
        try clear hcz66_1
        try clear hcz66_2
        try clear hcz66_3
        try clear hcz66_4
        try clear hcz68_0
        try clear hcz68_1
        try clear hcz68_2
        try clear hcz68_3
        try clear hcz68_4
        try clear hcz74_0
        try clear hcz74_1
        try clear hcz74_2
        try clear hcz74_3
        try clear hcz82_0
        try clear hcz82_1
        try clear hcz82_2
        try clear hcz82_3
        try clear hcz82_4
        try clear hcz86_0
        try clear hcz86_1
        try clear hcz86_2
        try clear hcz86_3
        try clear hcz86_4
        try clear hfz66_0
        try clear hfz66_1
        try clear hfz66_2
        try clear hfz66_3
        try clear hfz66_4
        try clear hfz68_0
        try clear hfz68_1
        try clear hfz68_2
        try clear hfz68_3
        try clear hfz68_4
        try clear hfz74_0
        try clear hfz74_1
        try clear hfz74_2
        try clear hfz74_3
        try clear hfz82_0
        try clear hfz82_1
        try clear hfz82_2
        try clear hfz82_3
        try clear hfz82_4
        try clear hfz86_0
        try clear hfz86_1
        try clear hfz86_2
        try clear hfz86_3
        try clear hfz86_4
        obtain ⟨kq, x48_21, rfl, HA, HJ21, HO_259004, HO_266003, HO_280004, BK236, BK237, BK258, BK265, BK279, HB⟩ := hcut
        have hl266003_21 := (Kd.S_reads' HO_266003.out).1
        rw [hl266003_21] at HO_266003
        (try simp only [hl266003_21])
        (try simp only [hl266003_21] at BK236)
        (try simp only [hl266003_21] at BK237)
        (try simp only [hl266003_21] at BK258)
        (try simp only [hl266003_21] at BK265)
        (try simp only [hl266003_21] at BK279)
        (try simp only [hl266003_21] at HO_259004)
        (try simp only [hl266003_21] at HO_280004)
        cases kq with
        | zero => exact absurd HA.out (by simp [laws_FnExactFrameFor.j0])
        | succ kj21 =>
         have H := HA.out
         clear HA
         simp only [laws_FnExactFrameFor.j0] at H
         by_cases c88 : x48_21 = true
         · subst c88
           have H1 : (some false) = some r := by rw [if_pos rfl] at H; exact H
           clear H
           have H := H1
           clear H1
           exact noArm H HTRUE_.out
         · replace c88 := Bool.eq_false_iff.mpr c88
           subst c88
           have H1 : ((laws_markFrame.f kj21 t272 t273 t274 t275 t276 1).bind fun bt291 => ((laws_heldFrame.f kj21 t272 t273 t274 t275 bt291.2 1).bind fun t293 => (if t293 < 0 then (some false) else (if t293 = bt291.1 then ((laws_toPicture.f kj21 a0_0 a0_1 a0_2 l0_3).bind fun bt294 => ((laws_toOptions.f a1_0 a1_1 a1_2 a1_3 a1_4 a1_5).bind fun bt300 => ((impl_FrameFor.f kj21 bt294.1 bt294.2.1 bt294.2.2.1 bt294.2.2.2 bt300.1 bt300.2.1 bt300.2.2.1 bt300.2.2.2.1 bt300.2.2.2.2.1 bt300.2.2.2.2.2).bind fun bt306 => ((laws_eqFrame.f kj21 bt306.1 bt306.2.1 bt306.2.2.1 bt306.2.2.2.1 bt306.2.2.2.2 t251 t252 t253 t254 t255).bind fun t314 => (if t314 = true then ((laws_heldFrame.f kj21 t272 t273 t274 t275 bt291.2 1).bind fun t315 => (if t315 < 0 then (some false) else (if t315 = bt291.1 then (some true) else (some false)))) else (some false)))))) else (some false))))) = some r := by rw [if_neg (show ¬ (false = true) by decide)] at H; exact H
           clear H
           have H := H1
           clear H1
           replace H := Option.bind_eq_some_iff.mp H
           obtain ⟨⟨t291, t292⟩, A890, H⟩ := H
           replace H : ((laws_heldFrame.f kj21 t272 t273 t274 t275 t292 1).bind fun t293 => (if t293 < 0 then (some false) else (if t293 = t291 then ((laws_toPicture.f kj21 a0_0 a0_1 a0_2 l0_3).bind fun bt294 => ((laws_toOptions.f a1_0 a1_1 a1_2 a1_3 a1_4 a1_5).bind fun bt300 => ((impl_FrameFor.f kj21 bt294.1 bt294.2.1 bt294.2.2.1 bt294.2.2.2 bt300.1 bt300.2.1 bt300.2.2.1 bt300.2.2.2.1 bt300.2.2.2.2.1 bt300.2.2.2.2.2).bind fun bt306 => ((laws_eqFrame.f kj21 bt306.1 bt306.2.1 bt306.2.2.1 bt306.2.2.2.1 bt306.2.2.2.2 t251 t252 t253 t254 t255).bind fun t314 => (if t314 = true then ((laws_heldFrame.f kj21 t272 t273 t274 t275 t292 1).bind fun t315 => (if t315 < 0 then (some false) else (if t315 = t291 then (some true) else (some false)))) else (some false)))))) else (some false)))) = some r := H
           have A89 := Aside0.mk A890
           clear A890
           replace H := Option.bind_eq_some_iff.mp H
           obtain ⟨t293, A900, H⟩ := H
           replace H : (if t293 < 0 then (some false) else (if t293 = t291 then ((laws_toPicture.f kj21 a0_0 a0_1 a0_2 l0_3).bind fun bt294 => ((laws_toOptions.f a1_0 a1_1 a1_2 a1_3 a1_4 a1_5).bind fun bt300 => ((impl_FrameFor.f kj21 bt294.1 bt294.2.1 bt294.2.2.1 bt294.2.2.2 bt300.1 bt300.2.1 bt300.2.2.1 bt300.2.2.2.1 bt300.2.2.2.2.1 bt300.2.2.2.2.2).bind fun bt306 => ((laws_eqFrame.f kj21 bt306.1 bt306.2.1 bt306.2.2.1 bt306.2.2.2.1 bt306.2.2.2.2 t251 t252 t253 t254 t255).bind fun t314 => (if t314 = true then ((laws_heldFrame.f kj21 t272 t273 t274 t275 t292 1).bind fun t315 => (if t315 < 0 then (some false) else (if t315 = t291 then (some true) else (some false)))) else (some false)))))) else (some false))) = some r := H
           have A90 := Aside0.mk A900
           clear A900
           by_cases c91 : t293 < 0
           · rw [if_pos c91] at H
             have c91b0 : decide (t293 < 0) = true := decide_eq_true c91
             clear c91
             exact noArm H HTRUE_.out
           · rw [if_neg c91] at H
             have c91b0 : decide (t293 < 0) = false := decide_eq_false c91
             clear c91
             by_cases c92 : t293 = t291
             · rw [if_pos c92] at H
               have c92b0 : (t293 == t291) = true := beq_iff_eq.mpr c92
               have c92b1 : (t293 != t291) = false := bne_eq_false_iff_eq.mpr c92
               clear c92
               replace H := Option.bind_eq_some_iff.mp H
               obtain ⟨⟨t294, t295, t296, t297⟩, A930, H⟩ := H
               replace H : ((laws_toOptions.f a1_0 a1_1 a1_2 a1_3 a1_4 a1_5).bind fun bt300 => ((impl_FrameFor.f kj21 t294 t295 t296 t297 bt300.1 bt300.2.1 bt300.2.2.1 bt300.2.2.2.1 bt300.2.2.2.2.1 bt300.2.2.2.2.2).bind fun bt306 => ((laws_eqFrame.f kj21 bt306.1 bt306.2.1 bt306.2.2.1 bt306.2.2.2.1 bt306.2.2.2.2 t251 t252 t253 t254 t255).bind fun t314 => (if t314 = true then ((laws_heldFrame.f kj21 t272 t273 t274 t275 t292 1).bind fun t315 => (if t315 < 0 then (some false) else (if t315 = t291 then (some true) else (some false)))) else (some false))))) = some r := H
               have A93 := Aside0.mk A930
               clear A930
               replace H := Option.bind_eq_some_iff.mp H
               obtain ⟨⟨t300, t301, t302, t303, t304, t305⟩, A940, H⟩ := H
               replace H : ((impl_FrameFor.f kj21 t294 t295 t296 t297 t300 t301 t302 t303 t304 t305).bind fun bt306 => ((laws_eqFrame.f kj21 bt306.1 bt306.2.1 bt306.2.2.1 bt306.2.2.2.1 bt306.2.2.2.2 t251 t252 t253 t254 t255).bind fun t314 => (if t314 = true then ((laws_heldFrame.f kj21 t272 t273 t274 t275 t292 1).bind fun t315 => (if t315 < 0 then (some false) else (if t315 = t291 then (some true) else (some false)))) else (some false)))) = some r := H
               have A94 := Aside0.mk A940
               clear A940
               replace H := Option.bind_eq_some_iff.mp H
               obtain ⟨⟨t306, t307, t308, t309, t310⟩, A950, H⟩ := H
               replace H : ((laws_eqFrame.f kj21 t306 t307 t308 t309 t310 t251 t252 t253 t254 t255).bind fun t314 => (if t314 = true then ((laws_heldFrame.f kj21 t272 t273 t274 t275 t292 1).bind fun t315 => (if t315 < 0 then (some false) else (if t315 = t291 then (some true) else (some false)))) else (some false))) = some r := H
               have A95 := Aside0.mk A950
               clear A950
               replace H := Option.bind_eq_some_iff.mp H
               obtain ⟨t314, A960, H⟩ := H
               replace H : (if t314 = true then ((laws_heldFrame.f kj21 t272 t273 t274 t275 t292 1).bind fun t315 => (if t315 < 0 then (some false) else (if t315 = t291 then (some true) else (some false)))) else (some false)) = some r := H
               have A96 := Aside0.mk A960
               clear A960
               by_cases c97 : t314 = true
               · subst c97
                 have H1 : ((laws_heldFrame.f kj21 t272 t273 t274 t275 t292 1).bind fun t315 => (if t315 < 0 then (some false) else (if t315 = t291 then (some true) else (some false)))) = some r := by rw [if_pos rfl] at H; exact H
                 clear H
                 have H := H1
                 clear H1
                 replace H := Option.bind_eq_some_iff.mp H
                 obtain ⟨t315, A980, H⟩ := H
                 replace H : (if t315 < 0 then (some false) else (if t315 = t291 then (some true) else (some false))) = some r := H
                 have A98 := Aside0.mk A980
                 clear A980
                 by_cases c99 : t315 < 0
                 · rw [if_pos c99] at H
                   have c99b0 : decide (t315 < 0) = true := decide_eq_true c99
                   clear c99
                   exact noArm H HTRUE_.out
                 · rw [if_neg c99] at H
                   have c99b0 : decide (t315 < 0) = false := decide_eq_false c99
                   clear c99
                   by_cases c100 : t315 = t291
                   · rw [if_pos c100] at H
                     have c100b0 : (t315 == t291) = true := beq_iff_eq.mpr c100
                     have c100b1 : (t315 != t291) = false := bne_eq_false_iff_eq.mpr c100
                     clear c100
                     obtain rfl := Option.some.inj H
                     have hnb101 := NB279_236.out
                     have hnc101 := NB236_279.out
                     have hnb102 := NB279_237.out
                     have hnc102 := NB237_279.out
                     have hnb103 := NB279_258.out
                     have hnc103 := NB258_279.out
                     have hnb104 := NB279_265.out
                     have hnc104 := NB265_279.out
                     have hcz105_0 : wc.cell? ⟨gb279, 0, none⟩ = some (.int .i64 t272) := bc BK279.out 0
                     have hcz105_1 : wc.cell? ⟨gb279, 1, none⟩ = some (.int .i64 t273) := bc BK279.out 1
                     have hcz105_2 : wc.cell? ⟨gb279, 2, none⟩ = some (.int .i64 t274) := bc BK279.out 2
                     have hcz105_3 : wc.cell? ⟨gb279, 3, none⟩ = some (.int .i64 t275) := bc BK279.out 3
                     have hcz105_4 : wc.cell? ⟨gb279, 4, none⟩ = some (.slice Ao60 t276.length co60) := bc BK279.out 4
                     have hfz105_0 := blk_frozen BK279.out 0
                     have hfz105_1 := blk_frozen BK279.out 1
                     have hfz105_2 := blk_frozen BK279.out 2
                     have hfz105_3 := blk_frozen BK279.out 3
                     have hfz105_4 := blk_frozen BK279.out 4
                     try go_wp2_with (first | ((with_reducible refine gate_callee (f := 14) rfl ?_); refine goesL_ (some 51) rfl rfl Try.func14 (by kernel_rfl) rfl #[.agg #[.int .i64 t272, .int .i64 t273, .int .i64 t274, .int .i64 t275, .slice Ao60 t276.length co60], .int .i64 1] rfl (by (try simp only [List.map_toArray, List.map_cons, List.map_nil]); first | done | rfl | (simp only [List.length_drop, List.length_take]; rfl)) ?_; (with_reducible refine (laws_markFrame.calls kj21 t272 t273 t274 t275 (fun k_ => some k_ = (.slice Ao60 t276.length co60 : Value).ownBlock) (.slice Ao60 t276.length co60) t276 1 t291 t292 w _ ?side1 ?side2 A89.out).mono ?_); (case side1 => repeat (first | (with_reducible first | exact HB.out | apply below_alloc | apply pw_below_drewN | apply below_drew1 | refine below_set ?_ (Aside0.out (by with_reducible assumption))) | exact HB.out)); (case side2 => exact Kd.R_tight rfl HO_280004.out); rintro e w106 ⟨rfl, hy0, hb, hkp⟩; refine ⟨_, rfl, ?_⟩; have n0_ := m0 (Kd.R_mono (ok' := fun k_ => some k_ ≠ (.slice Ao60 t276.length co60 : Value).ownBlock) (Kd.R_keptB (HO_259004.out) hkp (fun k_ hk_ hs_ => by simp only [ne_eq, hs_, not_true_eq_false, and_false, false_and] at hk_)) (fun k_ hk_ => hk_.1)); have n1_ := m0 (Kd.S_mono (ok' := fun k_ => True) (Kd.S_keptB ((Kd.S_apart' HO_266003.out (Kd.R_typed HO_280004.out) (by decide))) hkp (fun k_ hk_ hs_ => by simp only [ne_eq, hs_, not_true_eq_false, and_false, false_and] at hk_)) (fun k_ hk_ => trivial)); have n2_ := m0 (Kd.R_reok rfl hy0 (fun k_ e_ => HO_280004.out.1 k_ e_)); ((first | (with_reducible have hq_ := blk_kept (blk_drewN BK236.out _) hkp) | (with_reducible have hq_ := blk_kept BK236.out hkp)); have n3_ := m0 (hq_ (fun hs_ => (fun e_ => (Kd.R_ne HO_280004.out BK236.out (by decide)) e_) hs_)); clear hq_); ((first | (with_reducible have hq_ := blk_kept (blk_drewN BK237.out _) hkp) | (with_reducible have hq_ := blk_kept BK237.out hkp)); have n4_ := m0 (hq_ (fun hs_ => (fun e_ => (Kd.R_ne HO_280004.out BK237.out (by decide)) e_) hs_)); clear hq_); ((first | (with_reducible have hq_ := blk_kept (blk_drewN BK258.out _) hkp) | (with_reducible have hq_ := blk_kept BK258.out hkp)); have n5_ := m0 (hq_ (fun hs_ => (fun e_ => (Kd.R_ne HO_280004.out BK258.out (by decide)) e_) hs_)); clear hq_); ((first | (with_reducible have hq_ := blk_kept (blk_drewN BK265.out _) hkp) | (with_reducible have hq_ := blk_kept BK265.out hkp)); have n6_ := m0 (hq_ (fun hs_ => (fun e_ => (Kd.R_ne HO_280004.out BK265.out (by decide)) e_) hs_)); clear hq_); ((first | (with_reducible have hq_ := blk_kept (blk_drewN BK279.out _) hkp) | (with_reducible have hq_ := blk_kept BK279.out hkp)); have n7_ := m0 (hq_ (fun hs_ => (fun e_ => (Kd.R_ne HO_280004.out BK279.out (by decide)) e_) hs_)); clear hq_); have n8_ := m0 (hb); clear HO_259004 HO_266003 HO_280004 BK236 BK237 BK258 BK265 BK279 HB; have HO_259004 := n0_; have HO_266003 := n1_; have HO_280004 := n2_; have BK236 := n3_; have BK237 := n4_; have BK258 := n5_; have BK265 := n6_; have BK279 := n7_; have HB := n8_; clear n0_ n1_ n2_ n3_ n4_ n5_ n6_ n7_ n8_; (try clear hb); (try clear hkp); (try clear hy0); have hcz107_0 : w106.cell? ⟨gb279, 0, none⟩ = some (.int .i64 t272) := bc BK279.out 0; have hcz107_1 : w106.cell? ⟨gb279, 1, none⟩ = some (.int .i64 t273) := bc BK279.out 1; have hcz107_2 : w106.cell? ⟨gb279, 2, none⟩ = some (.int .i64 t274) := bc BK279.out 2; have hcz107_3 : w106.cell? ⟨gb279, 3, none⟩ = some (.int .i64 t275) := bc BK279.out 3; have hcz107_4 : w106.cell? ⟨gb279, 4, none⟩ = some (.slice Ao60 t276.length co60) := bc BK279.out 4; have hfz107_0 := blk_frozen BK279.out 0; have hfz107_1 := blk_frozen BK279.out 1; have hfz107_2 := blk_frozen BK279.out 2; have hfz107_3 := blk_frozen BK279.out 3; have hfz107_4 := blk_frozen BK279.out 4) | ((with_reducible refine gate_callee (f := 15) rfl ?_); refine goesL_ (some 54) rfl rfl Try.func15 (by kernel_rfl) rfl #[.agg #[.int .i64 t272, .int .i64 t273, .int .i64 t274, .int .i64 t275, .slice Ao60 t292.length co60], .int .i64 1] rfl (by (try simp only [List.map_toArray, List.map_cons, List.map_nil]); first | done | (rw [show t292.length = t276.length from (Kd.R_reads' HO_280004.out).1.symm] <;> rfl) | rfl | (simp only [List.length_drop, List.length_take]; rfl)) ?_; (with_reducible refine (laws_heldFrame.calls kj21 t272 t273 t274 t275 _ _ t292 1 t293 _ ?side1 ?side2 A90.out).mono ?_); (case side1 => repeat (first | exact (Kd.R_reads' HO_280004.out).2.2 | (with_reducible refine Kd.C_alloc ?_ _) | (with_reducible refine Kd.C_drewN ?_ _) | (with_reducible refine Kd.C_drew ?_))); (case side2 => rw [show t292.length = t276.length from (Kd.R_reads' HO_280004.out).1.symm]; exact (Kd.R_reads' HO_280004.out).2.1); rintro e w108 ⟨rfl, hb⟩; refine ⟨_, rfl, ?_⟩; have n0_ := m0 (Kd.R_below (rW HO_259004.out) hb); have n1_ := m0 (Kd.S_below (sW HO_266003.out) hb); have n2_ := m0 (Kd.R_below (rW HO_280004.out) hb); have n3_ := m0 (blk_below (bkW BK236.out) hb); have n4_ := m0 (blk_below (bkW BK237.out) hb); have n5_ := m0 (blk_below (bkW BK258.out) hb); have n6_ := m0 (blk_below (bkW BK265.out) hb); have n7_ := m0 (blk_below (bkW BK279.out) hb); have n8_ := m0 (below_step (by repeat (first | (with_reducible exact HB.out) | apply below_alloc | apply pw_below_drewN | apply below_drew1 | refine below_set ?_ (Aside0.out (by assumption)))) hb); clear HO_259004 HO_266003 HO_280004 BK236 BK237 BK258 BK265 BK279 HB; have HO_259004 := n0_; have HO_266003 := n1_; have HO_280004 := n2_; have BK236 := n3_; have BK237 := n4_; have BK258 := n5_; have BK265 := n6_; have BK279 := n7_; have HB := n8_; clear n0_ n1_ n2_ n3_ n4_ n5_ n6_ n7_ n8_; (try clear hb); (try clear hb2); (try clear hk); (try clear hi)))
                     have n0_ := m0 (Kd.R_drew HO_259004.out)
                     have n1_ := m0 (Kd.S_drew HO_266003.out)
                     have n2_ := m0 (Kd.R_drew HO_280004.out)
                     have n3_ := m0 (blk_drew BK236.out)
                     have n4_ := m0 (blk_drew BK237.out)
                     have n5_ := m0 (blk_drew BK258.out)
                     have n6_ := m0 (blk_drew BK265.out)
                     have n7_ := m0 (blk_drew BK279.out)
                     have n8_ := m0 (below_drew1 HB.out)
                     clear HO_259004 HO_266003 HO_280004 BK236 BK237 BK258 BK265 BK279 HB
                     have HO_259004 := n0_
                     have HO_266003 := n1_
                     have HO_280004 := n2_
                     have BK236 := n3_
                     have BK237 := n4_
                     have BK258 := n5_
                     have BK265 := n6_
                     have BK279 := n7_
                     have HB := n8_
                     clear n0_ n1_ n2_ n3_ n4_ n5_ n6_ n7_ n8_
                     refine start_ (n := 7) (S := fun w' => w'.cell? ⟨gb236, 0, none⟩ = some (.int .i64 a0_0) ∧ w'.cell? ⟨gb236, 1, none⟩ = some (.int .i64 a0_1) ∧ w'.cell? ⟨gb236, 2, none⟩ = some (.int .i64 a0_2) ∧ w'.cell? ⟨gb236, 3, none⟩ = some (.slice A0_3 l0_3.length c0_3) ∧ w'.cell? ⟨gb237, 0, none⟩ = some (.int .i64 a1_0) ∧ w'.cell? ⟨gb237, 1, none⟩ = some (.int .i64 a1_1) ∧ w'.cell? ⟨gb237, 2, none⟩ = some (.int .i64 a1_2) ∧ w'.cell? ⟨gb237, 3, none⟩ = some (.int .i64 a1_3) ∧ w'.cell? ⟨gb237, 4, none⟩ = some (.bool a1_4) ∧ w'.cell? ⟨gb237, 5, none⟩ = some (.bool a1_5)) (ds := []) #[false, false, false, false, false, false, false] (by kernel_rfl) rfl rfl ⟨bc BK236.out 0, bc BK236.out 1, bc BK236.out 2, bc BK236.out 3, bc BK237.out 0, bc BK237.out 1, bc BK237.out 2, bc BK237.out 3, bc BK237.out 4, bc BK237.out 5⟩ (fun hHeld => ?_)
                     generalize w108.drew = w109 at HO_259004 HO_266003 HO_280004 BK236 BK237 BK258 BK265 BK279 HB hHeld ⊢
                     refine take_ (i := 0) (N := some 60) (v := ?_) (a' := ?_) #[true, false, false, false, false, false, false] rfl rfl (by kernel_rfl) (fun _ _ _ h => h) (Or.inl ⟨by rfl, ?_⟩) hHeld ?_ ?_
                     rotate_left
                     · rintro w' ⟨s0, s1, s2, s3, s4, s5, s6, s7, s8, s9⟩
                       go_simp
                       with_reducible rfl
                     rotate_left
                     · simp only [Act.put, List.setIfInBounds_toArray, List.set_cons_zero, List.set_cons_succ, i64_w, i32_w]
                       rfl
                     refine take_ (i := 2) (N := some 62) (v := ?_) (a' := ?_) #[true, false, true, false, false, false, false] rfl rfl (by kernel_rfl) (fun _ _ _ h => h) (Or.inl ⟨by rfl, ?_⟩) hHeld ?_ ?_
                     rotate_left
                     · rintro w' ⟨s0, s1, s2, s3, s4, s5, s6, s7, s8, s9⟩
                       go_simp
                       with_reducible rfl
                     rotate_left
                     · simp only [Act.put, List.setIfInBounds_toArray, List.set_cons_zero, List.set_cons_succ, i64_w, i32_w]
                       rfl
                     refine join_ (σ := Value × Value × Nat) 1 #[true, true, true, true, true, true, false] (fun s_ => [(61, .agg #[.int .i64 t294, .int .i64 t295, .int .i64 t296, s_.1]), (63, .agg #[.int .i64 t300, .int .i64 t301, .int .i64 t302, .int .i64 t303, .bool t304, .bool t305]), (64, .agg #[.int .i64 t306, .int .i64 t307, .int .i64 t308, .int .i64 t309, s_.2.1]), (12, .pointer (some ⟨s_.2.2, 0, none⟩))]) (fun s_ w' => (w'.cell? ⟨gb236, 0, none⟩ = some (.int .i64 a0_0) ∧ w'.cell? ⟨gb236, 1, none⟩ = some (.int .i64 a0_1) ∧ w'.cell? ⟨gb236, 2, none⟩ = some (.int .i64 a0_2) ∧ w'.cell? ⟨gb236, 3, none⟩ = some (.slice A0_3 l0_3.length c0_3) ∧ w'.cell? ⟨gb237, 0, none⟩ = some (.int .i64 a1_0) ∧ w'.cell? ⟨gb237, 1, none⟩ = some (.int .i64 a1_1) ∧ w'.cell? ⟨gb237, 2, none⟩ = some (.int .i64 a1_2) ∧ w'.cell? ⟨gb237, 3, none⟩ = some (.int .i64 a1_3) ∧ w'.cell? ⟨gb237, 4, none⟩ = some (.bool a1_4) ∧ w'.cell? ⟨gb237, 5, none⟩ = some (.bool a1_5)) ∧ (Kd.S (Kd.slice 3 (Kd.int .i64)) 41 w' w.heap.size (fun k_ => some k_ ≠ (.slice Ao49 t289.length co49 : Value).ownBlock) s_.1 t297) ∧ (Kd.R k55 55 w' w.heap.size (fun k_ => some k_ ≠ (.slice Ao39 t255.length co39 : Value).ownBlock ∧ some k_ ≠ (.slice Ao60 t276.length co60 : Value).ownBlock) s_.2.1 t310) ∧ (Kd.R k55 55 w' w.heap.size (fun k_ => some k_ ≠ (s_.2.1 : Value).ownBlock ∧ some k_ ≠ (.slice Ao60 t276.length co60 : Value).ownBlock) (.slice Ao39 t255.length co39) t255) ∧ (Kd.S (Kd.slice 3 (Kd.int .i64)) 41 w' w.heap.size (fun k_ => some k_ ≠ (s_.1 : Value).ownBlock) (.slice Ao49 t289.length co49) t289) ∧ (Kd.R k55 55 w' w.heap.size (fun k_ => some k_ ≠ (s_.2.1 : Value).ownBlock ∧ some k_ ≠ (.slice Ao39 t255.length co39 : Value).ownBlock) (.slice Ao60 t276.length co60) t292) ∧ (w'.heap[gb236]? = some (.cells #[.int .i64 a0_0, .int .i64 a0_1, .int .i64 a0_2, .slice A0_3 l0_3.length c0_3] 24 (0, 0))) ∧ (w'.heap[gb237]? = some (.cells #[.int .i64 a1_0, .int .i64 a1_1, .int .i64 a1_2, .int .i64 a1_3, .bool a1_4, .bool a1_5] 26 (0, 0))) ∧ (w'.heap[gb258]? = some (.cells #[.int .i64 t251, .int .i64 t252, .int .i64 t253, .int .i64 t254, .slice Ao39 t255.length co39] 30 (0, 0))) ∧ (w'.heap[gb265]? = some (.cells #[.int .i64 t259, .int .i64 t260, .int .i64 t261, .slice Ao49 t289.length co49] 32 (0, 0))) ∧ (w'.heap[gb279]? = some (.cells #[.int .i64 t272, .int .i64 t273, .int .i64 t274, .int .i64 t275, .slice Ao60 t276.length co60] 30 (0, 0))) ∧ (w'.heap[s_.2.2]? = some (.cells #[.int .i64 0, .int .i64 0, .int .i64 0, .int .i64 0, .slice none 0 0] 30 (0, 0))) ∧ (w.heap.size ≤ s_.2.2) ∧ (w.heap.size ≤ s_.2.2) ∧ (gb236 ≠ s_.2.2) ∧ (s_.2.2 ≠ gb236) ∧ (gb237 ≠ s_.2.2) ∧ (s_.2.2 ≠ gb237) ∧ (gb258 ≠ s_.2.2) ∧ (s_.2.2 ≠ gb258) ∧ (gb265 ≠ s_.2.2) ∧ (s_.2.2 ≠ gb265) ∧ (gb279 ≠ s_.2.2) ∧ (s_.2.2 ≠ gb279) ∧ (Below w.heap.size w w')) ?_ ?_
                     rotate_left
                     · intro hCont
                       refine two_ (i := 1) (j := 5) (Ni := some 61) (Nj := some 12) #[true, true, true, false, false, false, false] #[true, false, true, false, false, true, false] rfl rfl rfl rfl (by kernel_rfl) (by decide) (by decide) (fun K hK => ?_) (fun K hK => ?_)
                       · skip
                         refine goes_ Try.func8 (by kernel_rfl) rfl #[.agg #[.int .i64 a0_0, .int .i64 a0_1, .int .i64 a0_2, .slice A0_3 l0_3.length c0_3]] (by rfl) rfl rfl (by (try simp only [List.map_toArray, List.map_cons, List.map_nil]); first | done | rfl | (simp only [List.length_drop, List.length_take]; rfl)) ?_
                         with_reducible refine (laws_toPicture.calls kj21 a0_0 a0_1 a0_2 _ _ l0_3 t294 t295 t296 t297 _ ?side1 ?side2 A93.out).mono ?_
                         (case side1 => repeat (first | exact (Kd.C_below HR0_3.out HB.out) | (with_reducible refine Kd.C_alloc ?_ _) | (with_reducible refine Kd.C_drewN ?_ _) | (with_reducible refine Kd.C_drew ?_)))
                         (case side2 => exact HC0_3.out)
                         rintro e w110 ⟨v298, rfl, ho0, hb⟩
                         refine ⟨_, rfl, ?_⟩
                         have n0_ := m0 (Kd.R_below (rW HO_259004.out) hb)
                         have n1_ := m0 (Kd.S_elder' (sW HO_266003.out) (Kd.S_base ho0) hb)
                         have n2_ := m0 (Kd.R_below (rW HO_280004.out) hb)
                         have n3_ := m0 (Kd.S_lower (Kd.S_new' ho0 (Kd.S_lt (sW HO_266003.out))) (below_size (by repeat (first | (with_reducible exact HB.out) | apply below_alloc | apply pw_below_drewN | apply below_drew1 | refine below_set ?_ (Aside0.out (by assumption))))))
                         have n4_ := m0 (blk_below (bkW BK236.out) hb)
                         have n5_ := m0 (blk_below (bkW BK237.out) hb)
                         have n6_ := m0 (blk_below (bkW BK258.out) hb)
                         have n7_ := m0 (blk_below (bkW BK265.out) hb)
                         have n8_ := m0 (blk_below (bkW BK279.out) hb)
                         have n9_ := m0 (below_step (by repeat (first | (with_reducible exact HB.out) | apply below_alloc | apply pw_below_drewN | apply below_drew1 | refine below_set ?_ (Aside0.out (by assumption)))) hb)
                         clear HO_259004 HO_266003 HO_280004 BK236 BK237 BK258 BK265 BK279 HB
                         have HO_259004 := n0_
                         have HO_266003 := n1_
                         have HO_280004 := n2_
                         have HO299 := n3_
                         have BK236 := n4_
                         have BK237 := n5_
                         have BK258 := n6_
                         have BK265 := n7_
                         have BK279 := n8_
                         have HB := n9_
                         clear n0_ n1_ n2_ n3_ n4_ n5_ n6_ n7_ n8_ n9_
                         (try clear hb)
                         (try clear hb2)
                         (try clear hk)
                         (try clear hi)
                         (try clear ho0)
                         refine hK.out _ _ ⟨bc BK236.out 0, bc BK236.out 1, bc BK236.out 2, bc BK236.out 3, bc BK237.out 0, bc BK237.out 1, bc BK237.out 2, bc BK237.out 3, bc BK237.out 4, bc BK237.out 5⟩ (fun hHeld => ?_)
                         clear hK K
                         refine norm_ (a' := ?_) ?_ ?_
                         rotate_left
                         · show Act.put _ (some 61) _ = _
                           simp only [Act.put, List.setIfInBounds_toArray, List.set_cons_zero, List.set_cons_succ, i64_w, i32_w]
                           rfl
                         refine two_ (i := 3) (j := 5) (Ni := some 63) (Nj := some 12) #[true, true, true, true, false, false, false] #[true, true, true, false, false, true, false] rfl rfl rfl rfl (by kernel_rfl) (by decide) (by decide) (fun K hK => ?_) (fun K hK => ?_)
                         · skip
                           refine goes_ Try.func9 (by kernel_rfl) rfl #[.agg #[.int .i64 a1_0, .int .i64 a1_1, .int .i64 a1_2, .int .i64 a1_3, .bool a1_4, .bool a1_5]] (by rfl) rfl rfl (by (try simp only [List.map_toArray, List.map_cons, List.map_nil]); first | done | rfl | (simp only [List.length_drop, List.length_take]; rfl)) ?_
                           with_reducible refine (laws_toOptions.calls a1_0 a1_1 a1_2 a1_3 a1_4 a1_5 t300 t301 t302 t303 t304 t305 _ A94.out).mono ?_
                           rintro e w111 ⟨rfl, hb⟩
                           refine ⟨_, rfl, ?_⟩
                           have n0_ := m0 (Kd.R_below (rW HO_259004.out) hb)
                           have n1_ := m0 (Kd.S_below (sW HO_266003.out) hb)
                           have n2_ := m0 (Kd.R_below (rW HO_280004.out) hb)
                           have n3_ := m0 (Kd.S_below (sW HO299.out) hb)
                           have n4_ := m0 (blk_below (bkW BK236.out) hb)
                           have n5_ := m0 (blk_below (bkW BK237.out) hb)
                           have n6_ := m0 (blk_below (bkW BK258.out) hb)
                           have n7_ := m0 (blk_below (bkW BK265.out) hb)
                           have n8_ := m0 (blk_below (bkW BK279.out) hb)
                           have n9_ := m0 (below_step (by repeat (first | (with_reducible exact HB.out) | apply below_alloc | apply pw_below_drewN | apply below_drew1 | refine below_set ?_ (Aside0.out (by assumption)))) hb)
                           clear HO_259004 HO_266003 HO_280004 HO299 BK236 BK237 BK258 BK265 BK279 HB
                           have HO_259004 := n0_
                           have HO_266003 := n1_
                           have HO_280004 := n2_
                           have HO299 := n3_
                           have BK236 := n4_
                           have BK237 := n5_
                           have BK258 := n6_
                           have BK265 := n7_
                           have BK279 := n8_
                           have HB := n9_
                           clear n0_ n1_ n2_ n3_ n4_ n5_ n6_ n7_ n8_ n9_
                           (try clear hb)
                           (try clear hb2)
                           (try clear hk)
                           (try clear hi)
                           obtain ⟨Ao112, co112, eo112⟩ := Kd.S_slice HO299.out
                           (first | subst eo112 | (injection eo112 with f1_ f2_ f3_; have f4_ := f1_.symm; have f5_ := f3_.symm; clear f1_ f2_ f3_; subst f4_; subst f5_))
                           refine hK.out _ _ ⟨bc BK236.out 0, bc BK236.out 1, bc BK236.out 2, bc BK236.out 3, bc BK237.out 0, bc BK237.out 1, bc BK237.out 2, bc BK237.out 3, bc BK237.out 4, bc BK237.out 5⟩ (fun hHeld => ?_)
                           clear hK K
                           refine norm_ (a' := ?_) ?_ ?_
                           rotate_left
                           · show Act.put _ (some 63) _ = _
                             simp only [Act.put, List.setIfInBounds_toArray, List.set_cons_zero, List.set_cons_succ, i64_w, i32_w]
                             rfl
                           refine two_ (i := 4) (j := 5) (Ni := some 64) (Nj := some 12) #[true, true, true, true, true, false, false] #[true, true, true, true, false, true, false] rfl rfl rfl rfl (by kernel_rfl) (by decide) (by decide) (fun K hK => ?_) (fun K hK => ?_)
                           · skip
                             refine goes_ Try.func10 (by kernel_rfl) rfl #[.agg #[.int .i64 t294, .int .i64 t295, .int .i64 t296, .slice Ao112 t297.length co112], .agg #[.int .i64 t300, .int .i64 t301, .int .i64 t302, .int .i64 t303, .bool t304, .bool t305]] (by rfl) rfl rfl (by (try simp only [List.map_toArray, List.map_cons, List.map_nil]); first | done | rfl | (simp only [List.length_drop, List.length_take]; rfl)) ?_
                             with_reducible refine (impl_FrameFor.calls kj21 t294 t295 t296 _ _ t297 t300 t301 t302 t303 t304 t305 t306 t307 t308 t309 t310 _ ?side1 ?side2 A95.out).mono ?_
                             (case side1 => repeat (first | exact (Kd.S_reads' HO299.out).2.2 | (with_reducible refine Kd.C_alloc ?_ _) | (with_reducible refine Kd.C_drewN ?_ _) | (with_reducible refine Kd.C_drew ?_)))
                             (case side2 => exact (Kd.S_reads' HO299.out).2.1)
                             rintro e w113 ⟨v311, rfl, ho0, hb⟩
                             refine ⟨_, rfl, ?_⟩
                             have n0_ := m0 (Kd.R_elder' (rW HO_259004.out) (Kd.R_base ho0) hb)
                             have n1_ := m0 (Kd.S_below (sW HO_266003.out) hb)
                             have n2_ := m0 (Kd.R_elder' (rW HO_280004.out) (Kd.R_base ho0) hb)
                             have n3_ := m0 (Kd.S_below (sW HO299.out) hb)
                             have n4_ := m0 (Kd.R_lower (Kd.R_new' (Kd.R_new' ho0 (Kd.R_lt (rW HO_259004.out))) (Kd.R_lt (rW HO_280004.out))) (below_size (by repeat (first | (with_reducible exact HB.out) | apply below_alloc | apply pw_below_drewN | apply below_drew1 | refine below_set ?_ (Aside0.out (by assumption))))))
                             have n5_ := m0 (blk_below (bkW BK236.out) hb)
                             have n6_ := m0 (blk_below (bkW BK237.out) hb)
                             have n7_ := m0 (blk_below (bkW BK258.out) hb)
                             have n8_ := m0 (blk_below (bkW BK265.out) hb)
                             have n9_ := m0 (blk_below (bkW BK279.out) hb)
                             have n10_ := m0 (below_step (by repeat (first | (with_reducible exact HB.out) | apply below_alloc | apply pw_below_drewN | apply below_drew1 | refine below_set ?_ (Aside0.out (by assumption)))) hb)
                             clear HO_259004 HO_266003 HO_280004 HO299 BK236 BK237 BK258 BK265 BK279 HB
                             have HO_259004 := n0_
                             have HO_266003 := n1_
                             have HO_280004 := n2_
                             have HO299 := n3_
                             have HO312 := n4_
                             have BK236 := n5_
                             have BK237 := n6_
                             have BK258 := n7_
                             have BK265 := n8_
                             have BK279 := n9_
                             have HB := n10_
                             clear n0_ n1_ n2_ n3_ n4_ n5_ n6_ n7_ n8_ n9_ n10_
                             (try clear hb)
                             (try clear hb2)
                             (try clear hk)
                             (try clear hi)
                             (try clear ho0)
                             refine hK.out _ _ ⟨bc BK236.out 0, bc BK236.out 1, bc BK236.out 2, bc BK236.out 3, bc BK237.out 0, bc BK237.out 1, bc BK237.out 2, bc BK237.out 3, bc BK237.out 4, bc BK237.out 5⟩ (fun hHeld => ?_)
                             clear hK K
                             refine norm_ (a' := ?_) ?_ ?_
                             rotate_left
                             · show Act.put _ (some 64) _ = _
                               simp only [Act.put, List.setIfInBounds_toArray, List.set_cons_zero, List.set_cons_succ, i64_w, i32_w]
                               rfl
                             refine one_ (i := 5) (N := some 12) #[true, true, true, true, true, true, false] rfl rfl (by kernel_rfl) (by decide) (fun K hK => ?_)
                             refine box_step ?hg (N := 12) ?hd (cs := #[.int .i64 0, .int .i64 0, .int .i64 0, .int .i64 0, .slice none 0 0]) (t := 30) ?hr ?_; (case hd => rfl); (case hg => rfl); (case hr => first | (go_simp; done) | (go_simp; rfl))
                             intro gb313 hg w114 hbox hb
                             have n0_ := m0 (Kd.R_below (rW HO_259004.out) hb)
                             have n1_ := m0 (Kd.S_below (sW HO_266003.out) hb)
                             have n2_ := m0 (Kd.R_below (rW HO_280004.out) hb)
                             have n3_ := m0 (Kd.S_below (sW HO299.out) hb)
                             have n4_ := m0 (Kd.R_below (rW HO312.out) hb)
                             have n5_ := m0 (blk_below (bkW BK236.out) hb)
                             have n6_ := m0 (blk_below (bkW BK237.out) hb)
                             have n7_ := m0 (blk_below (bkW BK258.out) hb)
                             have n8_ := m0 (blk_below (bkW BK265.out) hb)
                             have n9_ := m0 (blk_below (bkW BK279.out) hb)
                             have n10_ := m0 (below_step (by repeat (first | (with_reducible exact HB.out) | apply below_alloc | apply pw_below_drewN | apply below_drew1 | refine below_set ?_ (Aside0.out (by assumption)))) hb)
                             have n11_ := m0 (hbox)
                             have n12_ := m0 ((by rw [hg]; exact (below_size (by repeat (first | (with_reducible exact HB.out) | apply below_alloc | apply pw_below_drewN | apply below_drew1 | refine below_set ?_ (Aside0.out (by assumption))))) : w.heap.size ≤ gb313))
                             have n13_ := m0 ((by rw [hg]; exact (below_size (by repeat (first | (with_reducible exact HB.out) | apply below_alloc | apply pw_below_drewN | apply below_drew1 | refine below_set ?_ (Aside0.out (by assumption))))) : w.heap.size ≤ gb313))
                             have n14_ := m0 ((by rw [hg]; exact Nat.ne_of_lt (blk_lt (bkW BK236.out)) : gb236 ≠ gb313))
                             have n15_ := m0 ((by rw [hg]; exact Nat.ne_of_gt (blk_lt (bkW BK236.out)) : gb313 ≠ gb236))
                             have n16_ := m0 ((by rw [hg]; exact Nat.ne_of_lt (blk_lt (bkW BK237.out)) : gb237 ≠ gb313))
                             have n17_ := m0 ((by rw [hg]; exact Nat.ne_of_gt (blk_lt (bkW BK237.out)) : gb313 ≠ gb237))
                             have n18_ := m0 ((by rw [hg]; exact Nat.ne_of_lt (blk_lt (bkW BK258.out)) : gb258 ≠ gb313))
                             have n19_ := m0 ((by rw [hg]; exact Nat.ne_of_gt (blk_lt (bkW BK258.out)) : gb313 ≠ gb258))
                             have n20_ := m0 ((by rw [hg]; exact Nat.ne_of_lt (blk_lt (bkW BK265.out)) : gb265 ≠ gb313))
                             have n21_ := m0 ((by rw [hg]; exact Nat.ne_of_gt (blk_lt (bkW BK265.out)) : gb313 ≠ gb265))
                             have n22_ := m0 ((by rw [hg]; exact Nat.ne_of_lt (blk_lt (bkW BK279.out)) : gb279 ≠ gb313))
                             have n23_ := m0 ((by rw [hg]; exact Nat.ne_of_gt (blk_lt (bkW BK279.out)) : gb313 ≠ gb279))
                             clear HO_259004 HO_266003 HO_280004 HO299 HO312 BK236 BK237 BK258 BK265 BK279 HB
                             have HO_259004 := n0_
                             have HO_266003 := n1_
                             have HO_280004 := n2_
                             have HO299 := n3_
                             have HO312 := n4_
                             have BK236 := n5_
                             have BK237 := n6_
                             have BK258 := n7_
                             have BK265 := n8_
                             have BK279 := n9_
                             have HB := n10_
                             have BK313 := n11_
                             have GW313 := n12_
                             have GE313 := n13_
                             have NB236_313 := n14_
                             have NB313_236 := n15_
                             have NB237_313 := n16_
                             have NB313_237 := n17_
                             have NB258_313 := n18_
                             have NB313_258 := n19_
                             have NB265_313 := n20_
                             have NB313_265 := n21_
                             have NB279_313 := n22_
                             have NB313_279 := n23_
                             clear n0_ n1_ n2_ n3_ n4_ n5_ n6_ n7_ n8_ n9_ n10_ n11_ n12_ n13_ n14_ n15_ n16_ n17_ n18_ n19_ n20_ n21_ n22_ n23_ hb hbox hg
                             refine hK.out _ _ ⟨bc BK236.out 0, bc BK236.out 1, bc BK236.out 2, bc BK236.out 3, bc BK237.out 0, bc BK237.out 1, bc BK237.out 2, bc BK237.out 3, bc BK237.out 4, bc BK237.out 5⟩ (fun hHeld => ?_)
                             clear hK K
                             refine norm_ (a' := ?_) ?_ ?_
                             rotate_left
                             · show Act.put _ (some 12) _ = _
                               simp only [Act.put, List.setIfInBounds_toArray, List.set_cons_zero, List.set_cons_succ, i64_w, i32_w]
                               rfl
                             exact norm_ (by simp only [putAll, Act.put, List.setIfInBounds_toArray, List.set_cons_zero, List.set_cons_succ]) (hCont (.slice Ao112 t297.length co112, v311, gb313) _ ⟨hHeld, (by (with_reducible repeat (first | apply Kd.S_alloc | apply Kd.S_drewN | apply Kd.S_drew)); exact Kd.S_mono HO299.out (fun _ hk => hk.2)), (by (with_reducible repeat (first | apply Kd.R_alloc | apply Kd.R_drewN | apply Kd.R_drew)); exact Kd.R_mono HO312.out (fun _ hk => by simp only [ne_eq, hk, not_false_eq_true, and_self])), (by (with_reducible repeat (first | apply Kd.R_alloc | apply Kd.R_drewN | apply Kd.R_drew)); exact Kd.R_mono HO_259004.out (fun _ hk => by simp only [ne_eq, hk, not_false_eq_true, and_self])), (by (with_reducible repeat (first | apply Kd.S_alloc | apply Kd.S_drewN | apply Kd.S_drew)); exact Kd.S_mono HO_266003.out (fun _ hk => hk.2)), (by (with_reducible repeat (first | apply Kd.R_alloc | apply Kd.R_drewN | apply Kd.R_drew)); exact Kd.R_mono HO_280004.out (fun _ hk => by simp only [ne_eq, hk, not_false_eq_true, and_self])), (bkW BK236.out), (bkW BK237.out), (bkW BK258.out), (bkW BK265.out), (bkW BK279.out), (bkW BK313.out), GW313.out, GE313.out, NB236_313.out, NB313_236.out, NB237_313.out, NB313_237.out, NB258_313.out, NB313_258.out, NB265_313.out, NB313_265.out, NB279_313.out, NB313_279.out, (by repeat (first | (with_reducible exact HB.out) | apply below_alloc | apply pw_below_drewN | apply below_drew1 | refine below_set ?_ (Aside0.out (by assumption))))⟩)
                           · skip
                             refine box_step ?hg (N := 12) ?hd (cs := #[.int .i64 0, .int .i64 0, .int .i64 0, .int .i64 0, .slice none 0 0]) (t := 30) ?hr ?_; (case hd => rfl); (case hg => rfl); (case hr => first | (go_simp; done) | (go_simp; rfl))
                             intro gb313 hg w112 hbox hb
                             have n0_ := m0 (Kd.R_below (rW HO_259004.out) hb)
                             have n1_ := m0 (Kd.S_below (sW HO_266003.out) hb)
                             have n2_ := m0 (Kd.R_below (rW HO_280004.out) hb)
                             have n3_ := m0 (Kd.S_below (sW HO299.out) hb)
                             have n4_ := m0 (blk_below (bkW BK236.out) hb)
                             have n5_ := m0 (blk_below (bkW BK237.out) hb)
                             have n6_ := m0 (blk_below (bkW BK258.out) hb)
                             have n7_ := m0 (blk_below (bkW BK265.out) hb)
                             have n8_ := m0 (blk_below (bkW BK279.out) hb)
                             have n9_ := m0 (below_step (by repeat (first | (with_reducible exact HB.out) | apply below_alloc | apply pw_below_drewN | apply below_drew1 | refine below_set ?_ (Aside0.out (by assumption)))) hb)
                             have n10_ := m0 (hbox)
                             have n11_ := m0 ((by rw [hg]; exact (below_size (by repeat (first | (with_reducible exact HB.out) | apply below_alloc | apply pw_below_drewN | apply below_drew1 | refine below_set ?_ (Aside0.out (by assumption))))) : w.heap.size ≤ gb313))
                             have n12_ := m0 ((by rw [hg]; exact (below_size (by repeat (first | (with_reducible exact HB.out) | apply below_alloc | apply pw_below_drewN | apply below_drew1 | refine below_set ?_ (Aside0.out (by assumption))))) : w.heap.size ≤ gb313))
                             have n13_ := m0 ((by rw [hg]; exact Nat.ne_of_lt (blk_lt (bkW BK236.out)) : gb236 ≠ gb313))
                             have n14_ := m0 ((by rw [hg]; exact Nat.ne_of_gt (blk_lt (bkW BK236.out)) : gb313 ≠ gb236))
                             have n15_ := m0 ((by rw [hg]; exact Nat.ne_of_lt (blk_lt (bkW BK237.out)) : gb237 ≠ gb313))
                             have n16_ := m0 ((by rw [hg]; exact Nat.ne_of_gt (blk_lt (bkW BK237.out)) : gb313 ≠ gb237))
                             have n17_ := m0 ((by rw [hg]; exact Nat.ne_of_lt (blk_lt (bkW BK258.out)) : gb258 ≠ gb313))
                             have n18_ := m0 ((by rw [hg]; exact Nat.ne_of_gt (blk_lt (bkW BK258.out)) : gb313 ≠ gb258))
                             have n19_ := m0 ((by rw [hg]; exact Nat.ne_of_lt (blk_lt (bkW BK265.out)) : gb265 ≠ gb313))
                             have n20_ := m0 ((by rw [hg]; exact Nat.ne_of_gt (blk_lt (bkW BK265.out)) : gb313 ≠ gb265))
                             have n21_ := m0 ((by rw [hg]; exact Nat.ne_of_lt (blk_lt (bkW BK279.out)) : gb279 ≠ gb313))
                             have n22_ := m0 ((by rw [hg]; exact Nat.ne_of_gt (blk_lt (bkW BK279.out)) : gb313 ≠ gb279))
                             clear HO_259004 HO_266003 HO_280004 HO299 BK236 BK237 BK258 BK265 BK279 HB
                             have HO_259004 := n0_
                             have HO_266003 := n1_
                             have HO_280004 := n2_
                             have HO299 := n3_
                             have BK236 := n4_
                             have BK237 := n5_
                             have BK258 := n6_
                             have BK265 := n7_
                             have BK279 := n8_
                             have HB := n9_
                             have BK313 := n10_
                             have GW313 := n11_
                             have GE313 := n12_
                             have NB236_313 := n13_
                             have NB313_236 := n14_
                             have NB237_313 := n15_
                             have NB313_237 := n16_
                             have NB258_313 := n17_
                             have NB313_258 := n18_
                             have NB265_313 := n19_
                             have NB313_265 := n20_
                             have NB279_313 := n21_
                             have NB313_279 := n22_
                             clear n0_ n1_ n2_ n3_ n4_ n5_ n6_ n7_ n8_ n9_ n10_ n11_ n12_ n13_ n14_ n15_ n16_ n17_ n18_ n19_ n20_ n21_ n22_ hb hbox hg
                             obtain ⟨Ao113, co113, eo113⟩ := Kd.S_slice HO299.out
                             (first | subst eo113 | (injection eo113 with f1_ f2_ f3_; have f4_ := f1_.symm; have f5_ := f3_.symm; clear f1_ f2_ f3_; subst f4_; subst f5_))
                             refine hK.out _ _ ⟨bc BK236.out 0, bc BK236.out 1, bc BK236.out 2, bc BK236.out 3, bc BK237.out 0, bc BK237.out 1, bc BK237.out 2, bc BK237.out 3, bc BK237.out 4, bc BK237.out 5⟩ (fun hHeld => ?_)
                             clear hK K
                             refine norm_ (a' := ?_) ?_ ?_
                             rotate_left
                             · show Act.put _ (some 12) _ = _
                               simp only [Act.put, List.setIfInBounds_toArray, List.set_cons_zero, List.set_cons_succ, i64_w, i32_w]
                               rfl
                             refine one_ (i := 4) (N := some 64) #[true, true, true, true, true, true, false] rfl rfl (by kernel_rfl) (by decide) (fun K hK => ?_)
                             refine goes_ Try.func10 (by kernel_rfl) rfl #[.agg #[.int .i64 t294, .int .i64 t295, .int .i64 t296, .slice Ao113 t297.length co113], .agg #[.int .i64 t300, .int .i64 t301, .int .i64 t302, .int .i64 t303, .bool t304, .bool t305]] (by rfl) rfl rfl (by (try simp only [List.map_toArray, List.map_cons, List.map_nil]); first | done | rfl | (simp only [List.length_drop, List.length_take]; rfl)) ?_
                             with_reducible refine (impl_FrameFor.calls kj21 t294 t295 t296 _ _ t297 t300 t301 t302 t303 t304 t305 t306 t307 t308 t309 t310 _ ?side1 ?side2 A95.out).mono ?_
                             (case side1 => repeat (first | exact (Kd.S_reads' HO299.out).2.2 | (with_reducible refine Kd.C_alloc ?_ _) | (with_reducible refine Kd.C_drewN ?_ _) | (with_reducible refine Kd.C_drew ?_)))
                             (case side2 => exact (Kd.S_reads' HO299.out).2.1)
                             rintro e w114 ⟨v311, rfl, ho0, hb⟩
                             refine ⟨_, rfl, ?_⟩
                             have n0_ := m0 (Kd.R_elder' (rW HO_259004.out) (Kd.R_base ho0) hb)
                             have n1_ := m0 (Kd.S_below (sW HO_266003.out) hb)
                             have n2_ := m0 (Kd.R_elder' (rW HO_280004.out) (Kd.R_base ho0) hb)
                             have n3_ := m0 (Kd.S_below (sW HO299.out) hb)
                             have n4_ := m0 (Kd.R_lower (Kd.R_new' (Kd.R_new' ho0 (Kd.R_lt (rW HO_259004.out))) (Kd.R_lt (rW HO_280004.out))) (below_size (by repeat (first | (with_reducible exact HB.out) | apply below_alloc | apply pw_below_drewN | apply below_drew1 | refine below_set ?_ (Aside0.out (by assumption))))))
                             have n5_ := m0 (blk_below (bkW BK236.out) hb)
                             have n6_ := m0 (blk_below (bkW BK237.out) hb)
                             have n7_ := m0 (blk_below (bkW BK258.out) hb)
                             have n8_ := m0 (blk_below (bkW BK265.out) hb)
                             have n9_ := m0 (blk_below (bkW BK279.out) hb)
                             have n10_ := m0 (blk_below (bkW BK313.out) hb)
                             have n11_ := m0 (below_step (by repeat (first | (with_reducible exact HB.out) | apply below_alloc | apply pw_below_drewN | apply below_drew1 | refine below_set ?_ (Aside0.out (by assumption)))) hb)
                             clear HO_259004 HO_266003 HO_280004 HO299 BK236 BK237 BK258 BK265 BK279 BK313 HB
                             have HO_259004 := n0_
                             have HO_266003 := n1_
                             have HO_280004 := n2_
                             have HO299 := n3_
                             have HO312 := n4_
                             have BK236 := n5_
                             have BK237 := n6_
                             have BK258 := n7_
                             have BK265 := n8_
                             have BK279 := n9_
                             have BK313 := n10_
                             have HB := n11_
                             clear n0_ n1_ n2_ n3_ n4_ n5_ n6_ n7_ n8_ n9_ n10_ n11_
                             (try clear hb)
                             (try clear hb2)
                             (try clear hk)
                             (try clear hi)
                             (try clear ho0)
                             refine hK.out _ _ ⟨bc BK236.out 0, bc BK236.out 1, bc BK236.out 2, bc BK236.out 3, bc BK237.out 0, bc BK237.out 1, bc BK237.out 2, bc BK237.out 3, bc BK237.out 4, bc BK237.out 5⟩ (fun hHeld => ?_)
                             clear hK K
                             refine norm_ (a' := ?_) ?_ ?_
                             rotate_left
                             · show Act.put _ (some 64) _ = _
                               simp only [Act.put, List.setIfInBounds_toArray, List.set_cons_zero, List.set_cons_succ, i64_w, i32_w]
                               rfl
                             exact norm_ (by simp only [putAll, Act.put, List.setIfInBounds_toArray, List.set_cons_zero, List.set_cons_succ]) (hCont (.slice Ao113 t297.length co113, v311, gb313) _ ⟨hHeld, (by (with_reducible repeat (first | apply Kd.S_alloc | apply Kd.S_drewN | apply Kd.S_drew)); exact Kd.S_mono HO299.out (fun _ hk => hk.2)), (by (with_reducible repeat (first | apply Kd.R_alloc | apply Kd.R_drewN | apply Kd.R_drew)); exact Kd.R_mono HO312.out (fun _ hk => by simp only [ne_eq, hk, not_false_eq_true, and_self])), (by (with_reducible repeat (first | apply Kd.R_alloc | apply Kd.R_drewN | apply Kd.R_drew)); exact Kd.R_mono HO_259004.out (fun _ hk => by simp only [ne_eq, hk, not_false_eq_true, and_self])), (by (with_reducible repeat (first | apply Kd.S_alloc | apply Kd.S_drewN | apply Kd.S_drew)); exact Kd.S_mono HO_266003.out (fun _ hk => hk.2)), (by (with_reducible repeat (first | apply Kd.R_alloc | apply Kd.R_drewN | apply Kd.R_drew)); exact Kd.R_mono HO_280004.out (fun _ hk => by simp only [ne_eq, hk, not_false_eq_true, and_self])), (bkW BK236.out), (bkW BK237.out), (bkW BK258.out), (bkW BK265.out), (bkW BK279.out), (bkW BK313.out), GW313.out, GE313.out, NB236_313.out, NB313_236.out, NB237_313.out, NB313_237.out, NB258_313.out, NB313_258.out, NB265_313.out, NB313_265.out, NB279_313.out, NB313_279.out, (by repeat (first | (with_reducible exact HB.out) | apply below_alloc | apply pw_below_drewN | apply below_drew1 | refine below_set ?_ (Aside0.out (by assumption))))⟩)
                         · skip
                           refine box_step ?hg (N := 12) ?hd (cs := #[.int .i64 0, .int .i64 0, .int .i64 0, .int .i64 0, .slice none 0 0]) (t := 30) ?hr ?_; (case hd => rfl); (case hg => rfl); (case hr => first | (go_simp; done) | (go_simp; rfl))
                           intro gb313 hg w111 hbox hb
                           have n0_ := m0 (Kd.R_below (rW HO_259004.out) hb)
                           have n1_ := m0 (Kd.S_below (sW HO_266003.out) hb)
                           have n2_ := m0 (Kd.R_below (rW HO_280004.out) hb)
                           have n3_ := m0 (Kd.S_below (sW HO299.out) hb)
                           have n4_ := m0 (blk_below (bkW BK236.out) hb)
                           have n5_ := m0 (blk_below (bkW BK237.out) hb)
                           have n6_ := m0 (blk_below (bkW BK258.out) hb)
                           have n7_ := m0 (blk_below (bkW BK265.out) hb)
                           have n8_ := m0 (blk_below (bkW BK279.out) hb)
                           have n9_ := m0 (below_step (by repeat (first | (with_reducible exact HB.out) | apply below_alloc | apply pw_below_drewN | apply below_drew1 | refine below_set ?_ (Aside0.out (by assumption)))) hb)
                           have n10_ := m0 (hbox)
                           have n11_ := m0 ((by rw [hg]; exact (below_size (by repeat (first | (with_reducible exact HB.out) | apply below_alloc | apply pw_below_drewN | apply below_drew1 | refine below_set ?_ (Aside0.out (by assumption))))) : w.heap.size ≤ gb313))
                           have n12_ := m0 ((by rw [hg]; exact (below_size (by repeat (first | (with_reducible exact HB.out) | apply below_alloc | apply pw_below_drewN | apply below_drew1 | refine below_set ?_ (Aside0.out (by assumption))))) : w.heap.size ≤ gb313))
                           have n13_ := m0 ((by rw [hg]; exact Nat.ne_of_lt (blk_lt (bkW BK236.out)) : gb236 ≠ gb313))
                           have n14_ := m0 ((by rw [hg]; exact Nat.ne_of_gt (blk_lt (bkW BK236.out)) : gb313 ≠ gb236))
                           have n15_ := m0 ((by rw [hg]; exact Nat.ne_of_lt (blk_lt (bkW BK237.out)) : gb237 ≠ gb313))
                           have n16_ := m0 ((by rw [hg]; exact Nat.ne_of_gt (blk_lt (bkW BK237.out)) : gb313 ≠ gb237))
                           have n17_ := m0 ((by rw [hg]; exact Nat.ne_of_lt (blk_lt (bkW BK258.out)) : gb258 ≠ gb313))
                           have n18_ := m0 ((by rw [hg]; exact Nat.ne_of_gt (blk_lt (bkW BK258.out)) : gb313 ≠ gb258))
                           have n19_ := m0 ((by rw [hg]; exact Nat.ne_of_lt (blk_lt (bkW BK265.out)) : gb265 ≠ gb313))
                           have n20_ := m0 ((by rw [hg]; exact Nat.ne_of_gt (blk_lt (bkW BK265.out)) : gb313 ≠ gb265))
                           have n21_ := m0 ((by rw [hg]; exact Nat.ne_of_lt (blk_lt (bkW BK279.out)) : gb279 ≠ gb313))
                           have n22_ := m0 ((by rw [hg]; exact Nat.ne_of_gt (blk_lt (bkW BK279.out)) : gb313 ≠ gb279))
                           clear HO_259004 HO_266003 HO_280004 HO299 BK236 BK237 BK258 BK265 BK279 HB
                           have HO_259004 := n0_
                           have HO_266003 := n1_
                           have HO_280004 := n2_
                           have HO299 := n3_
                           have BK236 := n4_
                           have BK237 := n5_
                           have BK258 := n6_
                           have BK265 := n7_
                           have BK279 := n8_
                           have HB := n9_
                           have BK313 := n10_
                           have GW313 := n11_
                           have GE313 := n12_
                           have NB236_313 := n13_
                           have NB313_236 := n14_
                           have NB237_313 := n15_
                           have NB313_237 := n16_
                           have NB258_313 := n17_
                           have NB313_258 := n18_
                           have NB265_313 := n19_
                           have NB313_265 := n20_
                           have NB279_313 := n21_
                           have NB313_279 := n22_
                           clear n0_ n1_ n2_ n3_ n4_ n5_ n6_ n7_ n8_ n9_ n10_ n11_ n12_ n13_ n14_ n15_ n16_ n17_ n18_ n19_ n20_ n21_ n22_ hb hbox hg
                           refine hK.out _ _ ⟨bc BK236.out 0, bc BK236.out 1, bc BK236.out 2, bc BK236.out 3, bc BK237.out 0, bc BK237.out 1, bc BK237.out 2, bc BK237.out 3, bc BK237.out 4, bc BK237.out 5⟩ (fun hHeld => ?_)
                           clear hK K
                           refine norm_ (a' := ?_) ?_ ?_
                           rotate_left
                           · show Act.put _ (some 12) _ = _
                             simp only [Act.put, List.setIfInBounds_toArray, List.set_cons_zero, List.set_cons_succ, i64_w, i32_w]
                             rfl
                           refine one_ (i := 3) (N := some 63) #[true, true, true, true, false, true, false] rfl rfl (by kernel_rfl) (by decide) (fun K hK => ?_)
                           refine goes_ Try.func9 (by kernel_rfl) rfl #[.agg #[.int .i64 a1_0, .int .i64 a1_1, .int .i64 a1_2, .int .i64 a1_3, .bool a1_4, .bool a1_5]] (by rfl) rfl rfl (by (try simp only [List.map_toArray, List.map_cons, List.map_nil]); first | done | rfl | (simp only [List.length_drop, List.length_take]; rfl)) ?_
                           with_reducible refine (laws_toOptions.calls a1_0 a1_1 a1_2 a1_3 a1_4 a1_5 t300 t301 t302 t303 t304 t305 _ A94.out).mono ?_
                           rintro e w112 ⟨rfl, hb⟩
                           refine ⟨_, rfl, ?_⟩
                           have n0_ := m0 (Kd.R_below (rW HO_259004.out) hb)
                           have n1_ := m0 (Kd.S_below (sW HO_266003.out) hb)
                           have n2_ := m0 (Kd.R_below (rW HO_280004.out) hb)
                           have n3_ := m0 (Kd.S_below (sW HO299.out) hb)
                           have n4_ := m0 (blk_below (bkW BK236.out) hb)
                           have n5_ := m0 (blk_below (bkW BK237.out) hb)
                           have n6_ := m0 (blk_below (bkW BK258.out) hb)
                           have n7_ := m0 (blk_below (bkW BK265.out) hb)
                           have n8_ := m0 (blk_below (bkW BK279.out) hb)
                           have n9_ := m0 (blk_below (bkW BK313.out) hb)
                           have n10_ := m0 (below_step (by repeat (first | (with_reducible exact HB.out) | apply below_alloc | apply pw_below_drewN | apply below_drew1 | refine below_set ?_ (Aside0.out (by assumption)))) hb)
                           clear HO_259004 HO_266003 HO_280004 HO299 BK236 BK237 BK258 BK265 BK279 BK313 HB
                           have HO_259004 := n0_
                           have HO_266003 := n1_
                           have HO_280004 := n2_
                           have HO299 := n3_
                           have BK236 := n4_
                           have BK237 := n5_
                           have BK258 := n6_
                           have BK265 := n7_
                           have BK279 := n8_
                           have BK313 := n9_
                           have HB := n10_
                           clear n0_ n1_ n2_ n3_ n4_ n5_ n6_ n7_ n8_ n9_ n10_
                           (try clear hb)
                           (try clear hb2)
                           (try clear hk)
                           (try clear hi)
                           obtain ⟨Ao113, co113, eo113⟩ := Kd.S_slice HO299.out
                           (first | subst eo113 | (injection eo113 with f1_ f2_ f3_; have f4_ := f1_.symm; have f5_ := f3_.symm; clear f1_ f2_ f3_; subst f4_; subst f5_))
                           refine hK.out _ _ ⟨bc BK236.out 0, bc BK236.out 1, bc BK236.out 2, bc BK236.out 3, bc BK237.out 0, bc BK237.out 1, bc BK237.out 2, bc BK237.out 3, bc BK237.out 4, bc BK237.out 5⟩ (fun hHeld => ?_)
                           clear hK K
                           refine norm_ (a' := ?_) ?_ ?_
                           rotate_left
                           · show Act.put _ (some 63) _ = _
                             simp only [Act.put, List.setIfInBounds_toArray, List.set_cons_zero, List.set_cons_succ, i64_w, i32_w]
                             rfl
                           refine one_ (i := 4) (N := some 64) #[true, true, true, true, true, true, false] rfl rfl (by kernel_rfl) (by decide) (fun K hK => ?_)
                           refine goes_ Try.func10 (by kernel_rfl) rfl #[.agg #[.int .i64 t294, .int .i64 t295, .int .i64 t296, .slice Ao113 t297.length co113], .agg #[.int .i64 t300, .int .i64 t301, .int .i64 t302, .int .i64 t303, .bool t304, .bool t305]] (by rfl) rfl rfl (by (try simp only [List.map_toArray, List.map_cons, List.map_nil]); first | done | rfl | (simp only [List.length_drop, List.length_take]; rfl)) ?_
                           with_reducible refine (impl_FrameFor.calls kj21 t294 t295 t296 _ _ t297 t300 t301 t302 t303 t304 t305 t306 t307 t308 t309 t310 _ ?side1 ?side2 A95.out).mono ?_
                           (case side1 => repeat (first | exact (Kd.S_reads' HO299.out).2.2 | (with_reducible refine Kd.C_alloc ?_ _) | (with_reducible refine Kd.C_drewN ?_ _) | (with_reducible refine Kd.C_drew ?_)))
                           (case side2 => exact (Kd.S_reads' HO299.out).2.1)
                           rintro e w114 ⟨v311, rfl, ho0, hb⟩
                           refine ⟨_, rfl, ?_⟩
                           have n0_ := m0 (Kd.R_elder' (rW HO_259004.out) (Kd.R_base ho0) hb)
                           have n1_ := m0 (Kd.S_below (sW HO_266003.out) hb)
                           have n2_ := m0 (Kd.R_elder' (rW HO_280004.out) (Kd.R_base ho0) hb)
                           have n3_ := m0 (Kd.S_below (sW HO299.out) hb)
                           have n4_ := m0 (Kd.R_lower (Kd.R_new' (Kd.R_new' ho0 (Kd.R_lt (rW HO_259004.out))) (Kd.R_lt (rW HO_280004.out))) (below_size (by repeat (first | (with_reducible exact HB.out) | apply below_alloc | apply pw_below_drewN | apply below_drew1 | refine below_set ?_ (Aside0.out (by assumption))))))
                           have n5_ := m0 (blk_below (bkW BK236.out) hb)
                           have n6_ := m0 (blk_below (bkW BK237.out) hb)
                           have n7_ := m0 (blk_below (bkW BK258.out) hb)
                           have n8_ := m0 (blk_below (bkW BK265.out) hb)
                           have n9_ := m0 (blk_below (bkW BK279.out) hb)
                           have n10_ := m0 (blk_below (bkW BK313.out) hb)
                           have n11_ := m0 (below_step (by repeat (first | (with_reducible exact HB.out) | apply below_alloc | apply pw_below_drewN | apply below_drew1 | refine below_set ?_ (Aside0.out (by assumption)))) hb)
                           clear HO_259004 HO_266003 HO_280004 HO299 BK236 BK237 BK258 BK265 BK279 BK313 HB
                           have HO_259004 := n0_
                           have HO_266003 := n1_
                           have HO_280004 := n2_
                           have HO299 := n3_
                           have HO312 := n4_
                           have BK236 := n5_
                           have BK237 := n6_
                           have BK258 := n7_
                           have BK265 := n8_
                           have BK279 := n9_
                           have BK313 := n10_
                           have HB := n11_
                           clear n0_ n1_ n2_ n3_ n4_ n5_ n6_ n7_ n8_ n9_ n10_ n11_
                           (try clear hb)
                           (try clear hb2)
                           (try clear hk)
                           (try clear hi)
                           (try clear ho0)
                           refine hK.out _ _ ⟨bc BK236.out 0, bc BK236.out 1, bc BK236.out 2, bc BK236.out 3, bc BK237.out 0, bc BK237.out 1, bc BK237.out 2, bc BK237.out 3, bc BK237.out 4, bc BK237.out 5⟩ (fun hHeld => ?_)
                           clear hK K
                           refine norm_ (a' := ?_) ?_ ?_
                           rotate_left
                           · show Act.put _ (some 64) _ = _
                             simp only [Act.put, List.setIfInBounds_toArray, List.set_cons_zero, List.set_cons_succ, i64_w, i32_w]
                             rfl
                           exact norm_ (by simp only [putAll, Act.put, List.setIfInBounds_toArray, List.set_cons_zero, List.set_cons_succ]) (hCont (.slice Ao113 t297.length co113, v311, gb313) _ ⟨hHeld, (by (with_reducible repeat (first | apply Kd.S_alloc | apply Kd.S_drewN | apply Kd.S_drew)); exact Kd.S_mono HO299.out (fun _ hk => hk.2)), (by (with_reducible repeat (first | apply Kd.R_alloc | apply Kd.R_drewN | apply Kd.R_drew)); exact Kd.R_mono HO312.out (fun _ hk => by simp only [ne_eq, hk, not_false_eq_true, and_self])), (by (with_reducible repeat (first | apply Kd.R_alloc | apply Kd.R_drewN | apply Kd.R_drew)); exact Kd.R_mono HO_259004.out (fun _ hk => by simp only [ne_eq, hk, not_false_eq_true, and_self])), (by (with_reducible repeat (first | apply Kd.S_alloc | apply Kd.S_drewN | apply Kd.S_drew)); exact Kd.S_mono HO_266003.out (fun _ hk => hk.2)), (by (with_reducible repeat (first | apply Kd.R_alloc | apply Kd.R_drewN | apply Kd.R_drew)); exact Kd.R_mono HO_280004.out (fun _ hk => by simp only [ne_eq, hk, not_false_eq_true, and_self])), (bkW BK236.out), (bkW BK237.out), (bkW BK258.out), (bkW BK265.out), (bkW BK279.out), (bkW BK313.out), GW313.out, GE313.out, NB236_313.out, NB313_236.out, NB237_313.out, NB313_237.out, NB258_313.out, NB313_258.out, NB265_313.out, NB313_265.out, NB279_313.out, NB313_279.out, (by repeat (first | (with_reducible exact HB.out) | apply below_alloc | apply pw_below_drewN | apply below_drew1 | refine below_set ?_ (Aside0.out (by assumption))))⟩)
                       · skip
                         refine box_step ?hg (N := 12) ?hd (cs := #[.int .i64 0, .int .i64 0, .int .i64 0, .int .i64 0, .slice none 0 0]) (t := 30) ?hr ?_; (case hd => rfl); (case hg => rfl); (case hr => first | (go_simp; done) | (go_simp; rfl))
                         intro gb313 hg w110 hbox hb
                         have n0_ := m0 (Kd.R_below (rW HO_259004.out) hb)
                         have n1_ := m0 (Kd.S_below (sW HO_266003.out) hb)
                         have n2_ := m0 (Kd.R_below (rW HO_280004.out) hb)
                         have n3_ := m0 (blk_below (bkW BK236.out) hb)
                         have n4_ := m0 (blk_below (bkW BK237.out) hb)
                         have n5_ := m0 (blk_below (bkW BK258.out) hb)
                         have n6_ := m0 (blk_below (bkW BK265.out) hb)
                         have n7_ := m0 (blk_below (bkW BK279.out) hb)
                         have n8_ := m0 (below_step (by repeat (first | (with_reducible exact HB.out) | apply below_alloc | apply pw_below_drewN | apply below_drew1 | refine below_set ?_ (Aside0.out (by assumption)))) hb)
                         have n9_ := m0 (hbox)
                         have n10_ := m0 ((by rw [hg]; exact (below_size (by repeat (first | (with_reducible exact HB.out) | apply below_alloc | apply pw_below_drewN | apply below_drew1 | refine below_set ?_ (Aside0.out (by assumption))))) : w.heap.size ≤ gb313))
                         have n11_ := m0 ((by rw [hg]; exact (below_size (by repeat (first | (with_reducible exact HB.out) | apply below_alloc | apply pw_below_drewN | apply below_drew1 | refine below_set ?_ (Aside0.out (by assumption))))) : w.heap.size ≤ gb313))
                         have n12_ := m0 ((by rw [hg]; exact Nat.ne_of_lt (blk_lt (bkW BK236.out)) : gb236 ≠ gb313))
                         have n13_ := m0 ((by rw [hg]; exact Nat.ne_of_gt (blk_lt (bkW BK236.out)) : gb313 ≠ gb236))
                         have n14_ := m0 ((by rw [hg]; exact Nat.ne_of_lt (blk_lt (bkW BK237.out)) : gb237 ≠ gb313))
                         have n15_ := m0 ((by rw [hg]; exact Nat.ne_of_gt (blk_lt (bkW BK237.out)) : gb313 ≠ gb237))
                         have n16_ := m0 ((by rw [hg]; exact Nat.ne_of_lt (blk_lt (bkW BK258.out)) : gb258 ≠ gb313))
                         have n17_ := m0 ((by rw [hg]; exact Nat.ne_of_gt (blk_lt (bkW BK258.out)) : gb313 ≠ gb258))
                         have n18_ := m0 ((by rw [hg]; exact Nat.ne_of_lt (blk_lt (bkW BK265.out)) : gb265 ≠ gb313))
                         have n19_ := m0 ((by rw [hg]; exact Nat.ne_of_gt (blk_lt (bkW BK265.out)) : gb313 ≠ gb265))
                         have n20_ := m0 ((by rw [hg]; exact Nat.ne_of_lt (blk_lt (bkW BK279.out)) : gb279 ≠ gb313))
                         have n21_ := m0 ((by rw [hg]; exact Nat.ne_of_gt (blk_lt (bkW BK279.out)) : gb313 ≠ gb279))
                         clear HO_259004 HO_266003 HO_280004 BK236 BK237 BK258 BK265 BK279 HB
                         have HO_259004 := n0_
                         have HO_266003 := n1_
                         have HO_280004 := n2_
                         have BK236 := n3_
                         have BK237 := n4_
                         have BK258 := n5_
                         have BK265 := n6_
                         have BK279 := n7_
                         have HB := n8_
                         have BK313 := n9_
                         have GW313 := n10_
                         have GE313 := n11_
                         have NB236_313 := n12_
                         have NB313_236 := n13_
                         have NB237_313 := n14_
                         have NB313_237 := n15_
                         have NB258_313 := n16_
                         have NB313_258 := n17_
                         have NB265_313 := n18_
                         have NB313_265 := n19_
                         have NB279_313 := n20_
                         have NB313_279 := n21_
                         clear n0_ n1_ n2_ n3_ n4_ n5_ n6_ n7_ n8_ n9_ n10_ n11_ n12_ n13_ n14_ n15_ n16_ n17_ n18_ n19_ n20_ n21_ hb hbox hg
                         refine hK.out _ _ ⟨bc BK236.out 0, bc BK236.out 1, bc BK236.out 2, bc BK236.out 3, bc BK237.out 0, bc BK237.out 1, bc BK237.out 2, bc BK237.out 3, bc BK237.out 4, bc BK237.out 5⟩ (fun hHeld => ?_)
                         clear hK K
                         refine norm_ (a' := ?_) ?_ ?_
                         rotate_left
                         · show Act.put _ (some 12) _ = _
                           simp only [Act.put, List.setIfInBounds_toArray, List.set_cons_zero, List.set_cons_succ, i64_w, i32_w]
                           rfl
                         refine one_ (i := 1) (N := some 61) #[true, true, true, false, false, true, false] rfl rfl (by kernel_rfl) (by decide) (fun K hK => ?_)
                         refine goes_ Try.func8 (by kernel_rfl) rfl #[.agg #[.int .i64 a0_0, .int .i64 a0_1, .int .i64 a0_2, .slice A0_3 l0_3.length c0_3]] (by rfl) rfl rfl (by (try simp only [List.map_toArray, List.map_cons, List.map_nil]); first | done | rfl | (simp only [List.length_drop, List.length_take]; rfl)) ?_
                         with_reducible refine (laws_toPicture.calls kj21 a0_0 a0_1 a0_2 _ _ l0_3 t294 t295 t296 t297 _ ?side1 ?side2 A93.out).mono ?_
                         (case side1 => repeat (first | exact (Kd.C_below HR0_3.out HB.out) | (with_reducible refine Kd.C_alloc ?_ _) | (with_reducible refine Kd.C_drewN ?_ _) | (with_reducible refine Kd.C_drew ?_)))
                         (case side2 => exact HC0_3.out)
                         rintro e w111 ⟨v298, rfl, ho0, hb⟩
                         refine ⟨_, rfl, ?_⟩
                         have n0_ := m0 (Kd.R_below (rW HO_259004.out) hb)
                         have n1_ := m0 (Kd.S_elder' (sW HO_266003.out) (Kd.S_base ho0) hb)
                         have n2_ := m0 (Kd.R_below (rW HO_280004.out) hb)
                         have n3_ := m0 (Kd.S_lower (Kd.S_new' ho0 (Kd.S_lt (sW HO_266003.out))) (below_size (by repeat (first | (with_reducible exact HB.out) | apply below_alloc | apply pw_below_drewN | apply below_drew1 | refine below_set ?_ (Aside0.out (by assumption))))))
                         have n4_ := m0 (blk_below (bkW BK236.out) hb)
                         have n5_ := m0 (blk_below (bkW BK237.out) hb)
                         have n6_ := m0 (blk_below (bkW BK258.out) hb)
                         have n7_ := m0 (blk_below (bkW BK265.out) hb)
                         have n8_ := m0 (blk_below (bkW BK279.out) hb)
                         have n9_ := m0 (blk_below (bkW BK313.out) hb)
                         have n10_ := m0 (below_step (by repeat (first | (with_reducible exact HB.out) | apply below_alloc | apply pw_below_drewN | apply below_drew1 | refine below_set ?_ (Aside0.out (by assumption)))) hb)
                         clear HO_259004 HO_266003 HO_280004 BK236 BK237 BK258 BK265 BK279 BK313 HB
                         have HO_259004 := n0_
                         have HO_266003 := n1_
                         have HO_280004 := n2_
                         have HO299 := n3_
                         have BK236 := n4_
                         have BK237 := n5_
                         have BK258 := n6_
                         have BK265 := n7_
                         have BK279 := n8_
                         have BK313 := n9_
                         have HB := n10_
                         clear n0_ n1_ n2_ n3_ n4_ n5_ n6_ n7_ n8_ n9_ n10_
                         (try clear hb)
                         (try clear hb2)
                         (try clear hk)
                         (try clear hi)
                         (try clear ho0)
                         refine hK.out _ _ ⟨bc BK236.out 0, bc BK236.out 1, bc BK236.out 2, bc BK236.out 3, bc BK237.out 0, bc BK237.out 1, bc BK237.out 2, bc BK237.out 3, bc BK237.out 4, bc BK237.out 5⟩ (fun hHeld => ?_)
                         clear hK K
                         refine norm_ (a' := ?_) ?_ ?_
                         rotate_left
                         · show Act.put _ (some 61) _ = _
                           simp only [Act.put, List.setIfInBounds_toArray, List.set_cons_zero, List.set_cons_succ, i64_w, i32_w]
                           rfl
                         refine one_ (i := 3) (N := some 63) #[true, true, true, true, false, true, false] rfl rfl (by kernel_rfl) (by decide) (fun K hK => ?_)
                         refine goes_ Try.func9 (by kernel_rfl) rfl #[.agg #[.int .i64 a1_0, .int .i64 a1_1, .int .i64 a1_2, .int .i64 a1_3, .bool a1_4, .bool a1_5]] (by rfl) rfl rfl (by (try simp only [List.map_toArray, List.map_cons, List.map_nil]); first | done | rfl | (simp only [List.length_drop, List.length_take]; rfl)) ?_
                         with_reducible refine (laws_toOptions.calls a1_0 a1_1 a1_2 a1_3 a1_4 a1_5 t300 t301 t302 t303 t304 t305 _ A94.out).mono ?_
                         rintro e w112 ⟨rfl, hb⟩
                         refine ⟨_, rfl, ?_⟩
                         have n0_ := m0 (Kd.R_below (rW HO_259004.out) hb)
                         have n1_ := m0 (Kd.S_below (sW HO_266003.out) hb)
                         have n2_ := m0 (Kd.R_below (rW HO_280004.out) hb)
                         have n3_ := m0 (Kd.S_below (sW HO299.out) hb)
                         have n4_ := m0 (blk_below (bkW BK236.out) hb)
                         have n5_ := m0 (blk_below (bkW BK237.out) hb)
                         have n6_ := m0 (blk_below (bkW BK258.out) hb)
                         have n7_ := m0 (blk_below (bkW BK265.out) hb)
                         have n8_ := m0 (blk_below (bkW BK279.out) hb)
                         have n9_ := m0 (blk_below (bkW BK313.out) hb)
                         have n10_ := m0 (below_step (by repeat (first | (with_reducible exact HB.out) | apply below_alloc | apply pw_below_drewN | apply below_drew1 | refine below_set ?_ (Aside0.out (by assumption)))) hb)
                         clear HO_259004 HO_266003 HO_280004 HO299 BK236 BK237 BK258 BK265 BK279 BK313 HB
                         have HO_259004 := n0_
                         have HO_266003 := n1_
                         have HO_280004 := n2_
                         have HO299 := n3_
                         have BK236 := n4_
                         have BK237 := n5_
                         have BK258 := n6_
                         have BK265 := n7_
                         have BK279 := n8_
                         have BK313 := n9_
                         have HB := n10_
                         clear n0_ n1_ n2_ n3_ n4_ n5_ n6_ n7_ n8_ n9_ n10_
                         (try clear hb)
                         (try clear hb2)
                         (try clear hk)
                         (try clear hi)
                         obtain ⟨Ao113, co113, eo113⟩ := Kd.S_slice HO299.out
                         (first | subst eo113 | (injection eo113 with f1_ f2_ f3_; have f4_ := f1_.symm; have f5_ := f3_.symm; clear f1_ f2_ f3_; subst f4_; subst f5_))
                         refine hK.out _ _ ⟨bc BK236.out 0, bc BK236.out 1, bc BK236.out 2, bc BK236.out 3, bc BK237.out 0, bc BK237.out 1, bc BK237.out 2, bc BK237.out 3, bc BK237.out 4, bc BK237.out 5⟩ (fun hHeld => ?_)
                         clear hK K
                         refine norm_ (a' := ?_) ?_ ?_
                         rotate_left
                         · show Act.put _ (some 63) _ = _
                           simp only [Act.put, List.setIfInBounds_toArray, List.set_cons_zero, List.set_cons_succ, i64_w, i32_w]
                           rfl
                         refine one_ (i := 4) (N := some 64) #[true, true, true, true, true, true, false] rfl rfl (by kernel_rfl) (by decide) (fun K hK => ?_)
                         refine goes_ Try.func10 (by kernel_rfl) rfl #[.agg #[.int .i64 t294, .int .i64 t295, .int .i64 t296, .slice Ao113 t297.length co113], .agg #[.int .i64 t300, .int .i64 t301, .int .i64 t302, .int .i64 t303, .bool t304, .bool t305]] (by rfl) rfl rfl (by (try simp only [List.map_toArray, List.map_cons, List.map_nil]); first | done | rfl | (simp only [List.length_drop, List.length_take]; rfl)) ?_
                         with_reducible refine (impl_FrameFor.calls kj21 t294 t295 t296 _ _ t297 t300 t301 t302 t303 t304 t305 t306 t307 t308 t309 t310 _ ?side1 ?side2 A95.out).mono ?_
                         (case side1 => repeat (first | exact (Kd.S_reads' HO299.out).2.2 | (with_reducible refine Kd.C_alloc ?_ _) | (with_reducible refine Kd.C_drewN ?_ _) | (with_reducible refine Kd.C_drew ?_)))
                         (case side2 => exact (Kd.S_reads' HO299.out).2.1)
                         rintro e w114 ⟨v311, rfl, ho0, hb⟩
                         refine ⟨_, rfl, ?_⟩
                         have n0_ := m0 (Kd.R_elder' (rW HO_259004.out) (Kd.R_base ho0) hb)
                         have n1_ := m0 (Kd.S_below (sW HO_266003.out) hb)
                         have n2_ := m0 (Kd.R_elder' (rW HO_280004.out) (Kd.R_base ho0) hb)
                         have n3_ := m0 (Kd.S_below (sW HO299.out) hb)
                         have n4_ := m0 (Kd.R_lower (Kd.R_new' (Kd.R_new' ho0 (Kd.R_lt (rW HO_259004.out))) (Kd.R_lt (rW HO_280004.out))) (below_size (by repeat (first | (with_reducible exact HB.out) | apply below_alloc | apply pw_below_drewN | apply below_drew1 | refine below_set ?_ (Aside0.out (by assumption))))))
                         have n5_ := m0 (blk_below (bkW BK236.out) hb)
                         have n6_ := m0 (blk_below (bkW BK237.out) hb)
                         have n7_ := m0 (blk_below (bkW BK258.out) hb)
                         have n8_ := m0 (blk_below (bkW BK265.out) hb)
                         have n9_ := m0 (blk_below (bkW BK279.out) hb)
                         have n10_ := m0 (blk_below (bkW BK313.out) hb)
                         have n11_ := m0 (below_step (by repeat (first | (with_reducible exact HB.out) | apply below_alloc | apply pw_below_drewN | apply below_drew1 | refine below_set ?_ (Aside0.out (by assumption)))) hb)
                         clear HO_259004 HO_266003 HO_280004 HO299 BK236 BK237 BK258 BK265 BK279 BK313 HB
                         have HO_259004 := n0_
                         have HO_266003 := n1_
                         have HO_280004 := n2_
                         have HO299 := n3_
                         have HO312 := n4_
                         have BK236 := n5_
                         have BK237 := n6_
                         have BK258 := n7_
                         have BK265 := n8_
                         have BK279 := n9_
                         have BK313 := n10_
                         have HB := n11_
                         clear n0_ n1_ n2_ n3_ n4_ n5_ n6_ n7_ n8_ n9_ n10_ n11_
                         (try clear hb)
                         (try clear hb2)
                         (try clear hk)
                         (try clear hi)
                         (try clear ho0)
                         refine hK.out _ _ ⟨bc BK236.out 0, bc BK236.out 1, bc BK236.out 2, bc BK236.out 3, bc BK237.out 0, bc BK237.out 1, bc BK237.out 2, bc BK237.out 3, bc BK237.out 4, bc BK237.out 5⟩ (fun hHeld => ?_)
                         clear hK K
                         refine norm_ (a' := ?_) ?_ ?_
                         rotate_left
                         · show Act.put _ (some 64) _ = _
                           simp only [Act.put, List.setIfInBounds_toArray, List.set_cons_zero, List.set_cons_succ, i64_w, i32_w]
                           rfl
                         exact norm_ (by simp only [putAll, Act.put, List.setIfInBounds_toArray, List.set_cons_zero, List.set_cons_succ]) (hCont (.slice Ao113 t297.length co113, v311, gb313) _ ⟨hHeld, (by (with_reducible repeat (first | apply Kd.S_alloc | apply Kd.S_drewN | apply Kd.S_drew)); exact Kd.S_mono HO299.out (fun _ hk => hk.2)), (by (with_reducible repeat (first | apply Kd.R_alloc | apply Kd.R_drewN | apply Kd.R_drew)); exact Kd.R_mono HO312.out (fun _ hk => by simp only [ne_eq, hk, not_false_eq_true, and_self])), (by (with_reducible repeat (first | apply Kd.R_alloc | apply Kd.R_drewN | apply Kd.R_drew)); exact Kd.R_mono HO_259004.out (fun _ hk => by simp only [ne_eq, hk, not_false_eq_true, and_self])), (by (with_reducible repeat (first | apply Kd.S_alloc | apply Kd.S_drewN | apply Kd.S_drew)); exact Kd.S_mono HO_266003.out (fun _ hk => hk.2)), (by (with_reducible repeat (first | apply Kd.R_alloc | apply Kd.R_drewN | apply Kd.R_drew)); exact Kd.R_mono HO_280004.out (fun _ hk => by simp only [ne_eq, hk, not_false_eq_true, and_self])), (bkW BK236.out), (bkW BK237.out), (bkW BK258.out), (bkW BK265.out), (bkW BK279.out), (bkW BK313.out), GW313.out, GE313.out, NB236_313.out, NB313_236.out, NB237_313.out, NB313_237.out, NB258_313.out, NB313_258.out, NB265_313.out, NB313_265.out, NB279_313.out, NB313_279.out, (by repeat (first | (with_reducible exact HB.out) | apply below_alloc | apply pw_below_drewN | apply below_drew1 | refine below_set ?_ (Aside0.out (by assumption))))⟩)
                     rintro ⟨v298, v311, gb313⟩ w115 ⟨hS_, h0_, h1_, h2_, h3_, h4_, h5_, h6_, h7_, h8_, h9_, h10_, h11_, h12_, h13_, h14_, h15_, h16_, h17_, h18_, h19_, h20_, h21_, h22_, h23_⟩
                     have n0_ : Aside0 (Kd.S (Kd.slice 3 (Kd.int .i64)) 41 w115 w.heap.size (fun k_ => some k_ ≠ (.slice Ao49 t289.length co49 : Value).ownBlock) v298 t297) := ⟨h0_⟩
                     have n1_ : Aside0 (Kd.R k55 55 w115 w.heap.size (fun k_ => some k_ ≠ (.slice Ao39 t255.length co39 : Value).ownBlock ∧ some k_ ≠ (.slice Ao60 t276.length co60 : Value).ownBlock) v311 t310) := ⟨h1_⟩
                     have n2_ : Aside0 (Kd.R k55 55 w115 w.heap.size (fun k_ => some k_ ≠ (v311 : Value).ownBlock ∧ some k_ ≠ (.slice Ao60 t276.length co60 : Value).ownBlock) (.slice Ao39 t255.length co39) t255) := ⟨h2_⟩
                     have n3_ : Aside0 (Kd.S (Kd.slice 3 (Kd.int .i64)) 41 w115 w.heap.size (fun k_ => some k_ ≠ (v298 : Value).ownBlock) (.slice Ao49 t289.length co49) t289) := ⟨h3_⟩
                     have n4_ : Aside0 (Kd.R k55 55 w115 w.heap.size (fun k_ => some k_ ≠ (v311 : Value).ownBlock ∧ some k_ ≠ (.slice Ao39 t255.length co39 : Value).ownBlock) (.slice Ao60 t276.length co60) t292) := ⟨h4_⟩
                     have n5_ : Aside0 (w115.heap[gb236]? = some (.cells #[.int .i64 a0_0, .int .i64 a0_1, .int .i64 a0_2, .slice A0_3 l0_3.length c0_3] 24 (0, 0))) := ⟨h5_⟩
                     have n6_ : Aside0 (w115.heap[gb237]? = some (.cells #[.int .i64 a1_0, .int .i64 a1_1, .int .i64 a1_2, .int .i64 a1_3, .bool a1_4, .bool a1_5] 26 (0, 0))) := ⟨h6_⟩
                     have n7_ : Aside0 (w115.heap[gb258]? = some (.cells #[.int .i64 t251, .int .i64 t252, .int .i64 t253, .int .i64 t254, .slice Ao39 t255.length co39] 30 (0, 0))) := ⟨h7_⟩
                     have n8_ : Aside0 (w115.heap[gb265]? = some (.cells #[.int .i64 t259, .int .i64 t260, .int .i64 t261, .slice Ao49 t289.length co49] 32 (0, 0))) := ⟨h8_⟩
                     have n9_ : Aside0 (w115.heap[gb279]? = some (.cells #[.int .i64 t272, .int .i64 t273, .int .i64 t274, .int .i64 t275, .slice Ao60 t276.length co60] 30 (0, 0))) := ⟨h9_⟩
                     have n10_ : Aside0 (w115.heap[gb313]? = some (.cells #[.int .i64 0, .int .i64 0, .int .i64 0, .int .i64 0, .slice none 0 0] 30 (0, 0))) := ⟨h10_⟩
                     have n11_ : Aside0 (w.heap.size ≤ gb313) := ⟨h11_⟩
                     have n12_ : Aside0 (w.heap.size ≤ gb313) := ⟨h12_⟩
                     have n13_ : Aside0 (gb236 ≠ gb313) := ⟨h13_⟩
                     have n14_ : Aside0 (gb313 ≠ gb236) := ⟨h14_⟩
                     have n15_ : Aside0 (gb237 ≠ gb313) := ⟨h15_⟩
                     have n16_ : Aside0 (gb313 ≠ gb237) := ⟨h16_⟩
                     have n17_ : Aside0 (gb258 ≠ gb313) := ⟨h17_⟩
                     have n18_ : Aside0 (gb313 ≠ gb258) := ⟨h18_⟩
                     have n19_ : Aside0 (gb265 ≠ gb313) := ⟨h19_⟩
                     have n20_ : Aside0 (gb313 ≠ gb265) := ⟨h20_⟩
                     have n21_ : Aside0 (gb279 ≠ gb313) := ⟨h21_⟩
                     have n22_ : Aside0 (gb313 ≠ gb279) := ⟨h22_⟩
                     have n23_ : Aside0 (Below w.heap.size w w115) := ⟨h23_⟩
                     clear HO_259004 HO_266003 HO_280004 BK236 BK237 BK258 BK265 BK279 HB h0_ h1_ h2_ h3_ h4_ h5_ h6_ h7_ h8_ h9_ h10_ h11_ h12_ h13_ h14_ h15_ h16_ h17_ h18_ h19_ h20_ h21_ h22_ h23_
                     have HO299 := n0_
                     have HO312 := n1_
                     have HO_259004 := n2_
                     have HO_266003 := n3_
                     have HO_280004 := n4_
                     have BK236 := n5_
                     have BK237 := n6_
                     have BK258 := n7_
                     have BK265 := n8_
                     have BK279 := n9_
                     have BK313 := n10_
                     have GW313 := n11_
                     have GE313 := n12_
                     have NB236_313 := n13_
                     have NB313_236 := n14_
                     have NB237_313 := n15_
                     have NB313_237 := n16_
                     have NB258_313 := n17_
                     have NB313_258 := n18_
                     have NB265_313 := n19_
                     have NB313_265 := n20_
                     have NB279_313 := n21_
                     have NB313_279 := n22_
                     have HB := n23_
                     clear n0_ n1_ n2_ n3_ n4_ n5_ n6_ n7_ n8_ n9_ n10_ n11_ n12_ n13_ n14_ n15_ n16_ n17_ n18_ n19_ n20_ n21_ n22_ n23_
                     have hHeld : w115.cell? ⟨gb236, 0, none⟩ = some (.int .i64 a0_0) ∧ w115.cell? ⟨gb236, 1, none⟩ = some (.int .i64 a0_1) ∧ w115.cell? ⟨gb236, 2, none⟩ = some (.int .i64 a0_2) ∧ w115.cell? ⟨gb236, 3, none⟩ = some (.slice A0_3 l0_3.length c0_3) ∧ w115.cell? ⟨gb237, 0, none⟩ = some (.int .i64 a1_0) ∧ w115.cell? ⟨gb237, 1, none⟩ = some (.int .i64 a1_1) ∧ w115.cell? ⟨gb237, 2, none⟩ = some (.int .i64 a1_2) ∧ w115.cell? ⟨gb237, 3, none⟩ = some (.int .i64 a1_3) ∧ w115.cell? ⟨gb237, 4, none⟩ = some (.bool a1_4) ∧ w115.cell? ⟨gb237, 5, none⟩ = some (.bool a1_5) := hS_
                     obtain ⟨Ao120, co120, eo120⟩ := Kd.R_slice HO312.out
                     (first | subst eo120 | (injection eo120 with f1_ f2_ f3_; have f4_ := f1_.symm; have f5_ := f3_.symm; clear f1_ f2_ f3_; subst f4_; subst f5_))
                     refine norm_ (a' := ?_) ?_ ?_
                     rotate_left
                     · simp only [putAll, Act.put, List.setIfInBounds_toArray, List.set_cons_zero, List.set_cons_succ]
                       rfl
                     refine one_ (i := 6) (N := none) #[true, true, true, true, true, true, true] rfl rfl (by kernel_rfl) (by decide) (fun K hK => ?_)
                     have hs116 : w115.cell? ⟨gb313, 0, none⟩ = some (.int .i64 0) := bc BK313.out 0
                     have hfs116 := blk_frozen BK313.out 0
                     have hns116_0 := NB236_313.out
                     have hns116_1 := NB237_313.out
                     have hns116_2 := NB258_313.out
                     have hns116_3 := NB265_313.out
                     have hns116_4 := NB279_313.out
                     have hms116_0 := NB313_236.out
                     have hms116_1 := NB313_237.out
                     have hms116_2 := NB313_258.out
                     have hms116_3 := NB313_265.out
                     have hms116_4 := NB313_279.out
                     have hs117 : w115.cell? ⟨gb313, 1, none⟩ = some (.int .i64 0) := bc BK313.out 1
                     have hfs117 := blk_frozen BK313.out 1
                     have hns117_0 := NB236_313.out
                     have hns117_1 := NB237_313.out
                     have hns117_2 := NB258_313.out
                     have hns117_3 := NB265_313.out
                     have hns117_4 := NB279_313.out
                     have hms117_0 := NB313_236.out
                     have hms117_1 := NB313_237.out
                     have hms117_2 := NB313_258.out
                     have hms117_3 := NB313_265.out
                     have hms117_4 := NB313_279.out
                     have hs118 : w115.cell? ⟨gb313, 2, none⟩ = some (.int .i64 0) := bc BK313.out 2
                     have hfs118 := blk_frozen BK313.out 2
                     have hns118_0 := NB236_313.out
                     have hns118_1 := NB237_313.out
                     have hns118_2 := NB258_313.out
                     have hns118_3 := NB265_313.out
                     have hns118_4 := NB279_313.out
                     have hms118_0 := NB313_236.out
                     have hms118_1 := NB313_237.out
                     have hms118_2 := NB313_258.out
                     have hms118_3 := NB313_265.out
                     have hms118_4 := NB313_279.out
                     have hs119 : w115.cell? ⟨gb313, 3, none⟩ = some (.int .i64 0) := bc BK313.out 3
                     have hfs119 := blk_frozen BK313.out 3
                     have hns119_0 := NB236_313.out
                     have hns119_1 := NB237_313.out
                     have hns119_2 := NB258_313.out
                     have hns119_3 := NB265_313.out
                     have hns119_4 := NB279_313.out
                     have hms119_0 := NB313_236.out
                     have hms119_1 := NB313_237.out
                     have hms119_2 := NB313_258.out
                     have hms119_3 := NB313_265.out
                     have hms119_4 := NB313_279.out
                     have hs121 : w115.cell? ⟨gb313, 4, none⟩ = some (.slice none 0 0) := bc BK313.out 4
                     have hfs121 := blk_frozen BK313.out 4
                     have hns121_0 := NB236_313.out
                     have hns121_1 := NB237_313.out
                     have hns121_2 := NB258_313.out
                     have hns121_3 := NB265_313.out
                     have hns121_4 := NB279_313.out
                     have hms121_0 := NB313_236.out
                     have hms121_1 := NB313_237.out
                     have hms121_2 := NB313_258.out
                     have hms121_3 := NB313_265.out
                     have hms121_4 := NB313_279.out
                     refine skip_ (w1 := ?_) (by rfl) rfl ?_ ?_
                     rotate_left
                     · go_simp
                       rfl
                     refine hK.out _ _ ⟨((cell_far (p := ⟨gb313, _, none⟩) NB236_313.out _).trans (((cell_far (p := ⟨gb313, _, none⟩) NB236_313.out _).trans (((cell_far (p := ⟨gb313, _, none⟩) NB236_313.out _).trans (((cell_far (p := ⟨gb313, _, none⟩) NB236_313.out _).trans (((cell_far (p := ⟨gb313, _, none⟩) NB236_313.out _).trans (hHeld.1)))))))))), ((cell_far (p := ⟨gb313, _, none⟩) NB236_313.out _).trans (((cell_far (p := ⟨gb313, _, none⟩) NB236_313.out _).trans (((cell_far (p := ⟨gb313, _, none⟩) NB236_313.out _).trans (((cell_far (p := ⟨gb313, _, none⟩) NB236_313.out _).trans (((cell_far (p := ⟨gb313, _, none⟩) NB236_313.out _).trans (hHeld.2.1)))))))))), ((cell_far (p := ⟨gb313, _, none⟩) NB236_313.out _).trans (((cell_far (p := ⟨gb313, _, none⟩) NB236_313.out _).trans (((cell_far (p := ⟨gb313, _, none⟩) NB236_313.out _).trans (((cell_far (p := ⟨gb313, _, none⟩) NB236_313.out _).trans (((cell_far (p := ⟨gb313, _, none⟩) NB236_313.out _).trans (hHeld.2.2.1)))))))))), ((cell_far (p := ⟨gb313, _, none⟩) NB236_313.out _).trans (((cell_far (p := ⟨gb313, _, none⟩) NB236_313.out _).trans (((cell_far (p := ⟨gb313, _, none⟩) NB236_313.out _).trans (((cell_far (p := ⟨gb313, _, none⟩) NB236_313.out _).trans (((cell_far (p := ⟨gb313, _, none⟩) NB236_313.out _).trans (hHeld.2.2.2.1)))))))))), ((cell_far (p := ⟨gb313, _, none⟩) NB237_313.out _).trans (((cell_far (p := ⟨gb313, _, none⟩) NB237_313.out _).trans (((cell_far (p := ⟨gb313, _, none⟩) NB237_313.out _).trans (((cell_far (p := ⟨gb313, _, none⟩) NB237_313.out _).trans (((cell_far (p := ⟨gb313, _, none⟩) NB237_313.out _).trans (hHeld.2.2.2.2.1)))))))))), ((cell_far (p := ⟨gb313, _, none⟩) NB237_313.out _).trans (((cell_far (p := ⟨gb313, _, none⟩) NB237_313.out _).trans (((cell_far (p := ⟨gb313, _, none⟩) NB237_313.out _).trans (((cell_far (p := ⟨gb313, _, none⟩) NB237_313.out _).trans (((cell_far (p := ⟨gb313, _, none⟩) NB237_313.out _).trans (hHeld.2.2.2.2.2.1)))))))))), ((cell_far (p := ⟨gb313, _, none⟩) NB237_313.out _).trans (((cell_far (p := ⟨gb313, _, none⟩) NB237_313.out _).trans (((cell_far (p := ⟨gb313, _, none⟩) NB237_313.out _).trans (((cell_far (p := ⟨gb313, _, none⟩) NB237_313.out _).trans (((cell_far (p := ⟨gb313, _, none⟩) NB237_313.out _).trans (hHeld.2.2.2.2.2.2.1)))))))))), ((cell_far (p := ⟨gb313, _, none⟩) NB237_313.out _).trans (((cell_far (p := ⟨gb313, _, none⟩) NB237_313.out _).trans (((cell_far (p := ⟨gb313, _, none⟩) NB237_313.out _).trans (((cell_far (p := ⟨gb313, _, none⟩) NB237_313.out _).trans (((cell_far (p := ⟨gb313, _, none⟩) NB237_313.out _).trans (hHeld.2.2.2.2.2.2.2.1)))))))))), ((cell_far (p := ⟨gb313, _, none⟩) NB237_313.out _).trans (((cell_far (p := ⟨gb313, _, none⟩) NB237_313.out _).trans (((cell_far (p := ⟨gb313, _, none⟩) NB237_313.out _).trans (((cell_far (p := ⟨gb313, _, none⟩) NB237_313.out _).trans (((cell_far (p := ⟨gb313, _, none⟩) NB237_313.out _).trans (hHeld.2.2.2.2.2.2.2.2.1)))))))))), ((cell_far (p := ⟨gb313, _, none⟩) NB237_313.out _).trans (((cell_far (p := ⟨gb313, _, none⟩) NB237_313.out _).trans (((cell_far (p := ⟨gb313, _, none⟩) NB237_313.out _).trans (((cell_far (p := ⟨gb313, _, none⟩) NB237_313.out _).trans (((cell_far (p := ⟨gb313, _, none⟩) NB237_313.out _).trans (hHeld.2.2.2.2.2.2.2.2.2))))))))))⟩ (fun hHeld => ?_)
                     clear hK K
                     refine done_ (by kernel_rfl) ?_
                     have hnb122 := NB313_236.out
                     have hnc122 := NB236_313.out
                     have hnb123 := NB313_237.out
                     have hnc123 := NB237_313.out
                     have hnb124 := NB313_258.out
                     have hnc124 := NB258_313.out
                     have hnb125 := NB313_265.out
                     have hnc125 := NB265_313.out
                     have hnb126 := NB313_279.out
                     have hnc126 := NB279_313.out
                     have hcz127_0 : w115.cell? ⟨gb313, 0, none⟩ = some (.int .i64 0) := bc BK313.out 0
                     have hcz127_1 : w115.cell? ⟨gb313, 1, none⟩ = some (.int .i64 0) := bc BK313.out 1
                     have hcz127_2 : w115.cell? ⟨gb313, 2, none⟩ = some (.int .i64 0) := bc BK313.out 2
                     have hcz127_3 : w115.cell? ⟨gb313, 3, none⟩ = some (.int .i64 0) := bc BK313.out 3
                     have hcz127_4 : w115.cell? ⟨gb313, 4, none⟩ = some (.slice none 0 0) := bc BK313.out 4
                     have hfz127_0 := blk_frozen BK313.out 0
                     have hfz127_1 := blk_frozen BK313.out 1
                     have hfz127_2 := blk_frozen BK313.out 2
                     have hfz127_3 := blk_frozen BK313.out 3
                     have hfz127_4 := blk_frozen BK313.out 4
                     have hnb128 := NB258_236.out
                     have hnc128 := NB236_258.out
                     have hnb129 := NB258_237.out
                     have hnc129 := NB237_258.out
                     have hnb130 := NB258_265.out
                     have hnc130 := NB265_258.out
                     have hcz131_0 : w115.cell? ⟨gb258, 0, none⟩ = some (.int .i64 t251) := bc BK258.out 0
                     have hcz131_1 : w115.cell? ⟨gb258, 1, none⟩ = some (.int .i64 t252) := bc BK258.out 1
                     have hcz131_2 : w115.cell? ⟨gb258, 2, none⟩ = some (.int .i64 t253) := bc BK258.out 2
                     have hcz131_3 : w115.cell? ⟨gb258, 3, none⟩ = some (.int .i64 t254) := bc BK258.out 3
                     have hcz131_4 : w115.cell? ⟨gb258, 4, none⟩ = some (.slice Ao39 t255.length co39) := bc BK258.out 4
                     have hfz131_0 := blk_frozen BK258.out 0
                     have hfz131_1 := blk_frozen BK258.out 1
                     have hfz131_2 := blk_frozen BK258.out 2
                     have hfz131_3 := blk_frozen BK258.out 3
                     have hfz131_4 := blk_frozen BK258.out 4
                     try go_wp2_with (first | ((with_reducible refine gate_callee (f := 11) rfl ?_); refine goesL_ (some 67) rfl rfl Try.func11 (by kernel_rfl) rfl #[.agg #[.int .i64 t306, .int .i64 t307, .int .i64 t308, .int .i64 t309, .slice Ao120 t310.length co120], .agg #[.int .i64 t251, .int .i64 t252, .int .i64 t253, .int .i64 t254, .slice Ao39 t255.length co39]] rfl (by (try simp only [List.map_toArray, List.map_cons, List.map_nil]); first | done | rfl | (simp only [List.length_drop, List.length_take]; rfl)) ?_; (with_reducible refine (laws_eqFrame.calls kj21 t306 t307 t308 t309 _ _ t310 t251 t252 t253 t254 _ _ t255 true _ ?side1 ?side2 ?side3 ?side4 A96.out).mono ?_); (case side1 => refine (Kd.R_reads' (e := 55) (base := w.heap.size) (ok := fun k_ => (some k_ ≠ (.slice Ao39 t255.length co39 : Value).ownBlock ∧ some k_ ≠ (.slice Ao60 t276.length co60 : Value).ownBlock)) (n := t310.length) (c := co120) ?_).2.2; exact (by (with_reducible repeat (first | apply Kd.R_alloc | apply Kd.R_drewN | apply Kd.R_drew)); exact (Kd.R_mono (Kd.R_far (p := ⟨gb313, 4, none⟩) (Kd.R_far (p := ⟨gb313, 3, none⟩) (Kd.R_far (p := ⟨gb313, 2, none⟩) (Kd.R_far (p := ⟨gb313, 1, none⟩) (Kd.R_far (p := ⟨gb313, 0, none⟩) (Kd.R_types HO312.out BK313.out (by decide)) (fun _ hk => hk.2) (.int .i64 t306)) (fun _ hk => hk.2) (.int .i64 t307)) (fun _ hk => hk.2) (.int .i64 t308)) (fun _ hk => hk.2) (.int .i64 t309)) (fun _ hk => hk.2) (.slice Ao120 t310.length co120)) (fun _ h_ => h_.1)))); (case side2 => exact (Kd.R_reads' HO312.out).2.1); (case side3 => refine (Kd.R_reads' (e := 55) (base := w.heap.size) (ok := fun k_ => (some k_ ≠ (.slice Ao120 t310.length co120 : Value).ownBlock ∧ some k_ ≠ (.slice Ao60 t276.length co60 : Value).ownBlock)) (n := t255.length) (c := co39) ?_).2.2; exact (by (with_reducible repeat (first | apply Kd.R_alloc | apply Kd.R_drewN | apply Kd.R_drew)); exact (Kd.R_mono (Kd.R_far (p := ⟨gb313, 4, none⟩) (Kd.R_far (p := ⟨gb313, 3, none⟩) (Kd.R_far (p := ⟨gb313, 2, none⟩) (Kd.R_far (p := ⟨gb313, 1, none⟩) (Kd.R_far (p := ⟨gb313, 0, none⟩) (Kd.R_types HO_259004.out BK313.out (by decide)) (fun _ hk => hk.2) (.int .i64 t306)) (fun _ hk => hk.2) (.int .i64 t307)) (fun _ hk => hk.2) (.int .i64 t308)) (fun _ hk => hk.2) (.int .i64 t309)) (fun _ hk => hk.2) (.slice Ao120 t310.length co120)) (fun _ h_ => h_.1)))); (case side4 => exact (Kd.R_reads' HO_259004.out).2.1); rintro e w132 ⟨rfl, hb⟩; refine ⟨_, rfl, ?_⟩; have n0_ := m0 (Kd.R_below (by (with_reducible repeat (first | apply Kd.R_alloc | apply Kd.R_drewN | apply Kd.R_drew)); exact (Kd.R_mono (Kd.R_far (p := ⟨gb313, 4, none⟩) (Kd.R_far (p := ⟨gb313, 3, none⟩) (Kd.R_far (p := ⟨gb313, 2, none⟩) (Kd.R_far (p := ⟨gb313, 1, none⟩) (Kd.R_far (p := ⟨gb313, 0, none⟩) (Kd.R_types HO_259004.out BK313.out (by decide)) (fun _ hk => hk.2) (.int .i64 t306)) (fun _ hk => hk.2) (.int .i64 t307)) (fun _ hk => hk.2) (.int .i64 t308)) (fun _ hk => hk.2) (.int .i64 t309)) (fun _ hk => hk.2) (.slice Ao120 t310.length co120)) (fun _ h_ => h_.1))) hb); have n1_ := m0 (Kd.S_below (by (with_reducible repeat (first | apply Kd.S_alloc | apply Kd.S_drewN | apply Kd.S_drew)); exact (Kd.S_mono (Kd.S_far (p := ⟨gb313, 4, none⟩) (Kd.S_far (p := ⟨gb313, 3, none⟩) (Kd.S_far (p := ⟨gb313, 2, none⟩) (Kd.S_far (p := ⟨gb313, 1, none⟩) (Kd.S_far (p := ⟨gb313, 0, none⟩) (Kd.S_types HO_266003.out BK313.out (by decide)) (fun _ hk => hk.2) (.int .i64 t306)) (fun _ hk => hk.2) (.int .i64 t307)) (fun _ hk => hk.2) (.int .i64 t308)) (fun _ hk => hk.2) (.int .i64 t309)) (fun _ hk => hk.2) (.slice Ao120 t310.length co120)) (fun _ h_ => h_.1))) hb); have n2_ := m0 (Kd.R_below (by (with_reducible repeat (first | apply Kd.R_alloc | apply Kd.R_drewN | apply Kd.R_drew)); exact (Kd.R_mono (Kd.R_far (p := ⟨gb313, 4, none⟩) (Kd.R_far (p := ⟨gb313, 3, none⟩) (Kd.R_far (p := ⟨gb313, 2, none⟩) (Kd.R_far (p := ⟨gb313, 1, none⟩) (Kd.R_far (p := ⟨gb313, 0, none⟩) (Kd.R_types HO_280004.out BK313.out (by decide)) (fun _ hk => hk.2) (.int .i64 t306)) (fun _ hk => hk.2) (.int .i64 t307)) (fun _ hk => hk.2) (.int .i64 t308)) (fun _ hk => hk.2) (.int .i64 t309)) (fun _ hk => hk.2) (.slice Ao120 t310.length co120)) (fun _ h_ => h_.1))) hb); have n3_ := m0 (Kd.R_below (by (with_reducible repeat (first | apply Kd.R_alloc | apply Kd.R_drewN | apply Kd.R_drew)); exact (Kd.R_mono (Kd.R_far (p := ⟨gb313, 4, none⟩) (Kd.R_far (p := ⟨gb313, 3, none⟩) (Kd.R_far (p := ⟨gb313, 2, none⟩) (Kd.R_far (p := ⟨gb313, 1, none⟩) (Kd.R_far (p := ⟨gb313, 0, none⟩) (Kd.R_types HO312.out BK313.out (by decide)) (fun _ hk => hk.2) (.int .i64 t306)) (fun _ hk => hk.2) (.int .i64 t307)) (fun _ hk => hk.2) (.int .i64 t308)) (fun _ hk => hk.2) (.int .i64 t309)) (fun _ hk => hk.2) (.slice Ao120 t310.length co120)) (fun _ h_ => h_.1))) hb); have n4_ := m0 (blk_below (g := gb236) (o := .cells #[.int .i64 a0_0, .int .i64 a0_1, .int .i64 a0_2, .slice A0_3 l0_3.length c0_3] 24 (0, 0)) (by (with_reducible repeat (first | refine blk_drewN ?_ _ | refine blk_drew ?_ | refine blk_alloc ?_ _)); refine blk_far ?_ NB236_313.out _; (with_reducible repeat (first | refine blk_drewN ?_ _ | refine blk_drew ?_ | refine blk_alloc ?_ _)); refine blk_far ?_ NB236_313.out _; (with_reducible repeat (first | refine blk_drewN ?_ _ | refine blk_drew ?_ | refine blk_alloc ?_ _)); refine blk_far ?_ NB236_313.out _; (with_reducible repeat (first | refine blk_drewN ?_ _ | refine blk_drew ?_ | refine blk_alloc ?_ _)); refine blk_far ?_ NB236_313.out _; (with_reducible repeat (first | refine blk_drewN ?_ _ | refine blk_drew ?_ | refine blk_alloc ?_ _)); refine blk_far ?_ NB236_313.out _; (with_reducible repeat (first | refine blk_drewN ?_ _ | refine blk_drew ?_ | refine blk_alloc ?_ _)); exact BK236.out) hb); have n5_ := m0 (blk_below (g := gb237) (o := .cells #[.int .i64 a1_0, .int .i64 a1_1, .int .i64 a1_2, .int .i64 a1_3, .bool a1_4, .bool a1_5] 26 (0, 0)) (by (with_reducible repeat (first | refine blk_drewN ?_ _ | refine blk_drew ?_ | refine blk_alloc ?_ _)); refine blk_far ?_ NB237_313.out _; (with_reducible repeat (first | refine blk_drewN ?_ _ | refine blk_drew ?_ | refine blk_alloc ?_ _)); refine blk_far ?_ NB237_313.out _; (with_reducible repeat (first | refine blk_drewN ?_ _ | refine blk_drew ?_ | refine blk_alloc ?_ _)); refine blk_far ?_ NB237_313.out _; (with_reducible repeat (first | refine blk_drewN ?_ _ | refine blk_drew ?_ | refine blk_alloc ?_ _)); refine blk_far ?_ NB237_313.out _; (with_reducible repeat (first | refine blk_drewN ?_ _ | refine blk_drew ?_ | refine blk_alloc ?_ _)); refine blk_far ?_ NB237_313.out _; (with_reducible repeat (first | refine blk_drewN ?_ _ | refine blk_drew ?_ | refine blk_alloc ?_ _)); exact BK237.out) hb); have n6_ := m0 (blk_below (g := gb258) (o := .cells #[.int .i64 t251, .int .i64 t252, .int .i64 t253, .int .i64 t254, .slice Ao39 t255.length co39] 30 (0, 0)) (by (with_reducible repeat (first | refine blk_drewN ?_ _ | refine blk_drew ?_ | refine blk_alloc ?_ _)); refine blk_far ?_ NB258_313.out _; (with_reducible repeat (first | refine blk_drewN ?_ _ | refine blk_drew ?_ | refine blk_alloc ?_ _)); refine blk_far ?_ NB258_313.out _; (with_reducible repeat (first | refine blk_drewN ?_ _ | refine blk_drew ?_ | refine blk_alloc ?_ _)); refine blk_far ?_ NB258_313.out _; (with_reducible repeat (first | refine blk_drewN ?_ _ | refine blk_drew ?_ | refine blk_alloc ?_ _)); refine blk_far ?_ NB258_313.out _; (with_reducible repeat (first | refine blk_drewN ?_ _ | refine blk_drew ?_ | refine blk_alloc ?_ _)); refine blk_far ?_ NB258_313.out _; (with_reducible repeat (first | refine blk_drewN ?_ _ | refine blk_drew ?_ | refine blk_alloc ?_ _)); exact BK258.out) hb); have n7_ := m0 (blk_below (g := gb265) (o := .cells #[.int .i64 t259, .int .i64 t260, .int .i64 t261, .slice Ao49 t289.length co49] 32 (0, 0)) (by (with_reducible repeat (first | refine blk_drewN ?_ _ | refine blk_drew ?_ | refine blk_alloc ?_ _)); refine blk_far ?_ NB265_313.out _; (with_reducible repeat (first | refine blk_drewN ?_ _ | refine blk_drew ?_ | refine blk_alloc ?_ _)); refine blk_far ?_ NB265_313.out _; (with_reducible repeat (first | refine blk_drewN ?_ _ | refine blk_drew ?_ | refine blk_alloc ?_ _)); refine blk_far ?_ NB265_313.out _; (with_reducible repeat (first | refine blk_drewN ?_ _ | refine blk_drew ?_ | refine blk_alloc ?_ _)); refine blk_far ?_ NB265_313.out _; (with_reducible repeat (first | refine blk_drewN ?_ _ | refine blk_drew ?_ | refine blk_alloc ?_ _)); refine blk_far ?_ NB265_313.out _; (with_reducible repeat (first | refine blk_drewN ?_ _ | refine blk_drew ?_ | refine blk_alloc ?_ _)); exact BK265.out) hb); have n8_ := m0 (blk_below (g := gb279) (o := .cells #[.int .i64 t272, .int .i64 t273, .int .i64 t274, .int .i64 t275, .slice Ao60 t276.length co60] 30 (0, 0)) (by (with_reducible repeat (first | refine blk_drewN ?_ _ | refine blk_drew ?_ | refine blk_alloc ?_ _)); refine blk_far ?_ NB279_313.out _; (with_reducible repeat (first | refine blk_drewN ?_ _ | refine blk_drew ?_ | refine blk_alloc ?_ _)); refine blk_far ?_ NB279_313.out _; (with_reducible repeat (first | refine blk_drewN ?_ _ | refine blk_drew ?_ | refine blk_alloc ?_ _)); refine blk_far ?_ NB279_313.out _; (with_reducible repeat (first | refine blk_drewN ?_ _ | refine blk_drew ?_ | refine blk_alloc ?_ _)); refine blk_far ?_ NB279_313.out _; (with_reducible repeat (first | refine blk_drewN ?_ _ | refine blk_drew ?_ | refine blk_alloc ?_ _)); refine blk_far ?_ NB279_313.out _; (with_reducible repeat (first | refine blk_drewN ?_ _ | refine blk_drew ?_ | refine blk_alloc ?_ _)); exact BK279.out) hb); have n9_ := m0 (blk_below (g := gb313) (o := .cells #[.int .i64 t306, .int .i64 t307, .int .i64 t308, .int .i64 t309, .slice Ao120 t310.length co120] 30 (0, 0)) (by (with_reducible repeat (first | refine blk_drewN ?_ _ | refine blk_drew ?_ | refine blk_alloc ?_ _)); refine blk_put (cs := #[.int .i64 t306, .int .i64 t307, .int .i64 t308, .int .i64 t309, .slice none 0 0]) ?_ 4 _ rfl; (with_reducible repeat (first | refine blk_drewN ?_ _ | refine blk_drew ?_ | refine blk_alloc ?_ _)); refine blk_put (cs := #[.int .i64 t306, .int .i64 t307, .int .i64 t308, .int .i64 0, .slice none 0 0]) ?_ 3 _ rfl; (with_reducible repeat (first | refine blk_drewN ?_ _ | refine blk_drew ?_ | refine blk_alloc ?_ _)); refine blk_put (cs := #[.int .i64 t306, .int .i64 t307, .int .i64 0, .int .i64 0, .slice none 0 0]) ?_ 2 _ rfl; (with_reducible repeat (first | refine blk_drewN ?_ _ | refine blk_drew ?_ | refine blk_alloc ?_ _)); refine blk_put (cs := #[.int .i64 t306, .int .i64 0, .int .i64 0, .int .i64 0, .slice none 0 0]) ?_ 1 _ rfl; (with_reducible repeat (first | refine blk_drewN ?_ _ | refine blk_drew ?_ | refine blk_alloc ?_ _)); refine blk_put (cs := #[.int .i64 0, .int .i64 0, .int .i64 0, .int .i64 0, .slice none 0 0]) ?_ 0 _ rfl; (with_reducible repeat (first | refine blk_drewN ?_ _ | refine blk_drew ?_ | refine blk_alloc ?_ _)); exact BK313.out) hb); have n10_ := m0 (below_step (by repeat (first | (with_reducible exact HB.out) | apply below_alloc | apply pw_below_drewN | apply below_drew1 | refine below_set ?_ (Aside0.out (by assumption)))) hb); clear HO_259004 HO_266003 HO_280004 HO312 BK236 BK237 BK258 BK265 BK279 BK313 HB; have HO_259004 := n0_; have HO_266003 := n1_; have HO_280004 := n2_; have HO312 := n3_; have BK236 := n4_; have BK237 := n5_; have BK258 := n6_; have BK265 := n7_; have BK279 := n8_; have BK313 := n9_; have HB := n10_; clear n0_ n1_ n2_ n3_ n4_ n5_ n6_ n7_ n8_ n9_ n10_; (try clear hb); (try clear hb2); (try clear hk); (try clear hi); have hcz133_0 : w132.cell? ⟨gb279, 0, none⟩ = some (.int .i64 t272) := bc BK279.out 0; have hcz133_1 : w132.cell? ⟨gb279, 1, none⟩ = some (.int .i64 t273) := bc BK279.out 1; have hcz133_2 : w132.cell? ⟨gb279, 2, none⟩ = some (.int .i64 t274) := bc BK279.out 2; have hcz133_3 : w132.cell? ⟨gb279, 3, none⟩ = some (.int .i64 t275) := bc BK279.out 3; have hcz133_4 : w132.cell? ⟨gb279, 4, none⟩ = some (.slice Ao60 t276.length co60) := bc BK279.out 4; have hfz133_0 := blk_frozen BK279.out 0; have hfz133_1 := blk_frozen BK279.out 1; have hfz133_2 := blk_frozen BK279.out 2; have hfz133_3 := blk_frozen BK279.out 3; have hfz133_4 := blk_frozen BK279.out 4) | ((with_reducible refine gate_callee (f := 15) rfl ?_); refine goesL_ (some 71) rfl rfl Try.func15 (by kernel_rfl) rfl #[.agg #[.int .i64 t272, .int .i64 t273, .int .i64 t274, .int .i64 t275, .slice Ao60 t292.length co60], .int .i64 1] rfl (by (try simp only [List.map_toArray, List.map_cons, List.map_nil]); first | done | (rw [show t292.length = t276.length from (Kd.R_reads' HO_280004.out).1.symm] <;> rfl) | rfl | (simp only [List.length_drop, List.length_take]; rfl)) ?_; (with_reducible refine (laws_heldFrame.calls kj21 t272 t273 t274 t275 _ _ t292 1 t315 _ ?side1 ?side2 A98.out).mono ?_); (case side1 => repeat (first | exact (Kd.R_reads' HO_280004.out).2.2 | (with_reducible refine Kd.C_alloc ?_ _) | (with_reducible refine Kd.C_drewN ?_ _) | (with_reducible refine Kd.C_drew ?_))); (case side2 => rw [show t292.length = t276.length from (Kd.R_reads' HO_280004.out).1.symm]; exact (Kd.R_reads' HO_280004.out).2.1); rintro e w134 ⟨rfl, hb⟩; refine ⟨_, rfl, ?_⟩; have n0_ := m0 (Kd.R_below (rW HO_259004.out) hb); have n1_ := m0 (Kd.S_below (sW HO_266003.out) hb); have n2_ := m0 (Kd.R_below (rW HO_280004.out) hb); have n3_ := m0 (Kd.R_below (rW HO312.out) hb); have n4_ := m0 (blk_below (bkW BK236.out) hb); have n5_ := m0 (blk_below (bkW BK237.out) hb); have n6_ := m0 (blk_below (bkW BK258.out) hb); have n7_ := m0 (blk_below (bkW BK265.out) hb); have n8_ := m0 (blk_below (bkW BK279.out) hb); have n9_ := m0 (blk_below (bkW BK313.out) hb); have n10_ := m0 (below_step (by repeat (first | (with_reducible exact HB.out) | apply below_alloc | apply pw_below_drewN | apply below_drew1 | refine below_set ?_ (Aside0.out (by assumption)))) hb); clear HO_259004 HO_266003 HO_280004 HO312 BK236 BK237 BK258 BK265 BK279 BK313 HB; have HO_259004 := n0_; have HO_266003 := n1_; have HO_280004 := n2_; have HO312 := n3_; have BK236 := n4_; have BK237 := n5_; have BK258 := n6_; have BK265 := n7_; have BK279 := n8_; have BK313 := n9_; have HB := n10_; clear n0_ n1_ n2_ n3_ n4_ n5_ n6_ n7_ n8_ n9_ n10_; (try clear hb); (try clear hb2); (try clear hk); (try clear hi)))
                     go_ret
                     exact ⟨by first | rfl | (simp [errW_none, errW_some] <;> rfl) | (simp [*, errW_none, errW_some] <;> rfl), by repeat (first | (with_reducible first | exact HB.out | apply below_alloc | apply pw_below_drewN | apply below_drew1 | refine below_set ?_ (Aside0.out (by with_reducible assumption))) | exact HB.out)⟩
                   · rw [if_neg c100] at H
                     have c100b0 : (t315 == t291) = false := beq_eq_false_iff_ne.mpr c100
                     have c100b1 : (t315 != t291) = true := bne_iff_ne.mpr c100
                     exact noArm H HTRUE_.out
               · replace c97 := Bool.eq_false_iff.mpr c97
                 subst c97
                 have H1 : (some false) = some r := by rw [if_neg (show ¬ (false = true) by decide)] at H; exact H
                 clear H
                 have H := H1
                 clear H1
                 exact noArm H HTRUE_.out
             · rw [if_neg c92] at H
               have c92b0 : (t293 == t291) = false := beq_eq_false_iff_ne.mpr c92
               have c92b1 : (t293 != t291) = true := bne_iff_ne.mpr c92
               exact noArm H HTRUE_.out
     · replace c20 := Bool.eq_false_iff.mpr c20
       subst c20
       have H1 : (some false) = some r := by rw [if_neg (show ¬ (false = true) by decide)] at H; exact H
       clear H
       have H := H1
       clear H1
       exact noArm H HTRUE_.out
   · replace c17 := Bool.eq_false_iff.mpr c17
     subst c17
     have H1 : (some false) = some r := by rw [if_neg (show ¬ (false = true) by decide)] at H; exact H
     clear H
     have H := H1
     clear H1
     exact noArm H HTRUE_.out

def wf24 (x : S24) : Prop := (Lit.int .i64 x.f0).wf = true ∧ (Lit.int .i64 x.f1).wf = true ∧ (Lit.int .i64 x.f2).wf = true ∧ ((x.f3).length ≤ maxLen ∧ ∀ y_12 ∈ (x.f3), (y_12.length ≤ maxLen ∧ ∀ y_7 ∈ y_12, (Lit.int .i64 y_7).wf = true))
theorem op24 : Op.Opens Try.prog 24 k24 wf24 := Op.opens_mono (Op.opens_struct (fun x_ => ⟨x_.1, x_.2.1, x_.2.2.1, x_.2.2.2⟩) (fun _ => rfl) Try.underlying24 (by kernel_rfl) (Op.opensF_cons rfl (by kernel_rfl) (Op.opens_int Try.underlying3) (Op.opensF_cons rfl (by kernel_rfl) (Op.opens_int Try.underlying3) (Op.opensF_cons rfl (by kernel_rfl) (Op.opens_int Try.underlying3) (Op.opensF_last rfl (by kernel_rfl) (Op.opens_slice Try.underlying22 (by kernel_rfl) (Op.opens_slice Try.underlying41 (by kernel_rfl) (Op.opens_int Try.underlying3)))))))) (fun _ h_ => h_)
def wf26 (x : S26) : Prop := (Lit.int .i64 x.f0).wf = true ∧ (Lit.int .i64 x.f1).wf = true ∧ (Lit.int .i64 x.f2).wf = true ∧ (Lit.int .i64 x.f3).wf = true ∧ True ∧ True
theorem op26 : Op.Opens Try.prog 26 k26 wf26 := Op.opens_mono (Op.opens_struct (fun x_ => ⟨x_.1, x_.2.1, x_.2.2.1, x_.2.2.2.1, x_.2.2.2.2.1, x_.2.2.2.2.2⟩) (fun _ => rfl) Try.underlying26 (by kernel_rfl) (Op.opensF_cons rfl (by kernel_rfl) (Op.opens_int Try.underlying3) (Op.opensF_cons rfl (by kernel_rfl) (Op.opens_int Try.underlying3) (Op.opensF_cons rfl (by kernel_rfl) (Op.opens_int Try.underlying3) (Op.opensF_cons rfl (by kernel_rfl) (Op.opens_int Try.underlying3) (Op.opensF_cons rfl (by kernel_rfl) (Op.opens_bool Try.underlying4) (Op.opensF_last rfl (by kernel_rfl) (Op.opens_bool Try.underlying4)))))))) (fun _ h_ => h_)
/-- The one pure statement of laws_FnExactFrameFor. -/
def laws_FnExactFrameFor.Pure : Prop := ∀ (a0_0 : Int) (a0_1 : Int) (a0_2 : Int) (l0_3 : List (List Int)) (a1_0 : Int) (a1_1 : Int) (a1_2 : Int) (a1_3 : Int) (a1_4 : Bool) (a1_5 : Bool), (Lit.int .i64 a0_0).wf = true → (Lit.int .i64 a0_1).wf = true → (Lit.int .i64 a0_2).wf = true → (l0_3.length ≤ maxLen ∧ ∀ y_12 ∈ l0_3, (y_12.length ≤ maxLen ∧ ∀ y_7 ∈ y_12, (Lit.int .i64 y_7).wf = true)) → (Lit.int .i64 a1_0).wf = true → (Lit.int .i64 a1_1).wf = true → (Lit.int .i64 a1_2).wf = true → (Lit.int .i64 a1_3).wf = true → ∃ k, laws_FnExactFrameFor.f k a0_0 a0_1 a0_2 l0_3 a1_0 a1_1 a1_2 a1_3 a1_4 a1_5 = some true
theorem laws_FnExactFrameFor.walk (P : laws_FnExactFrameFor.Pure) (a0_0 : Int) (a0_1 : Int) (a0_2 : Int) (A0_3 : Option Addr) (c0_3 : Nat) (l0_3 : List (List Int)) (a1_0 : Int) (a1_1 : Int) (a1_2 : Int) (a1_3 : Int) (a1_4 : Bool) (a1_5 : Bool) (w : World) (hr0_3 : Kd.C (Kd.slice 3 (Kd.int .i64)) w A0_3 l0_3.length l0_3) (hc0_3 : l0_3.length ≤ c0_3) (qa0_0 : (Lit.int .i64 a0_0).wf = true) (qa0_1 : (Lit.int .i64 a0_1).wf = true) (qa0_2 : (Lit.int .i64 a0_2).wf = true) (ql0_3 : (l0_3.length ≤ maxLen ∧ ∀ y_12 ∈ l0_3, (y_12.length ≤ maxLen ∧ ∀ y_7 ∈ y_12, (Lit.int .i64 y_7).wf = true))) (qa1_0 : (Lit.int .i64 a1_0).wf = true) (qa1_1 : (Lit.int .i64 a1_1).wf = true) (qa1_2 : (Lit.int .i64 a1_2).wf = true) (qa1_3 : (Lit.int .i64 a1_3).wf = true) :
 Calls Try.prog 3 #[.agg #[.int .i64 a0_0, .int .i64 a0_1, .int .i64 a0_2, .slice A0_3 l0_3.length c0_3], .agg #[.int .i64 a1_0, .int .i64 a1_1, .int .i64 a1_2, .int .i64 a1_3, .bool a1_4, .bool a1_5]] w fun e w' => e = .returned (.bool true) ∧ Below w.heap.size w w' := by
 obtain ⟨k, h⟩ := P a0_0 a0_1 a0_2 l0_3 a1_0 a1_1 a1_2 a1_3 a1_4 a1_5 qa0_0 qa0_1 qa0_2 ql0_3 qa1_0 qa1_1 qa1_2 qa1_3
 refine (laws_FnExactFrameFor.calls k a0_0 a0_1 a0_2 A0_3 c0_3 l0_3 a1_0 a1_1 a1_2 a1_3 a1_4 a1_5 true w hr0_3 hc0_3 ⟨rfl⟩ h).mono ?_
 rintro e w' ⟨rfl, hd⟩
 exact ⟨rfl, hd⟩

end Go.Proofs.Ytmgjglegooehbaa.CF
