/- Functions that a law of this seat reaches: written by a program of this session (wip/xprint.py), and by hand. -/
import Derived.Test.YthajjjpblkhmmaaCPx0
import Derived.Test.YthajjjpblkhmmaaCPx1
import Derived.Test.YthajjjpblkhmmaaCPx4
import Derived.Test.YthajjjpblkhmmaaCPx6
namespace Go.Proofs.Ythajjjpblkhmmaa.CP
open Go.RowKit Go.Proofs.Ythajjjpblkhmmaa.B Go.Proofs.YthajjjpblkhmmaaW.PrintWords Go.Proofs.YthajjjpblkhmmaaW.PrintLast Go.Proofs.YthajjjpblkhmmaaW.PrintMore
attribute [local go_sem] max2_int min2_int max_two min_two max_three min_three max_four min_four   -- for this text's walks alone
set_option linter.unusedVariables false
set_option linter.unusedSimpArgs false

/-! ### laws_FnExactPutFirst: function 4 -/
def laws_FnExactPutFirst.j0 : Nat → List Int → List Int → List Int → List Int → Bool → List Int → Int → Int → Int → Int → Option (Bool)
  | 0, _, _, _, _, _, _, _, _, _, _ => none
  | k + 1, x0, x2, x8, x12, x80, x223000, x223001, x223002, x223003, x223004 => if x80 = true then (some false) else ((laws_markIntS.f k x12 1).bind fun bt281 => ((laws_heldIntS.f k bt281.2 1).bind fun t283 => (if t283 < 0 then (some false) else (if t283 = bt281.1 then ((laws_toIntS.f k x0).bind fun t284 => ((laws_toScan.f k x223000 x223001 x223002 x223003 x223004).bind fun bt287 => ((laws_toIntS.f k x2).bind fun t294 => ((impl_PutFirst.f k t284 bt287.1 bt287.2.1 bt287.2.2.1 bt287.2.2.2.1 bt287.2.2.2.2 t294).bind fun t297 => ((laws_eqIntS.f k t297 x8).bind fun t300 => (if t300 = true then ((laws_heldIntS.f k bt281.2 1).bind fun t301 => (if t301 < 0 then (some false) else (if t301 = bt281.1 then (some true) else (some false)))) else (some false))))))) else (some false)))))
def laws_FnExactPutFirst.f (k : Nat) (l0 : List Int) (l1_0 : List Int) (a1_1 : Int) (a1_2 : Int) (a1_3 : Int) (a1_4 : Int) (l2 : List Int) : Option (Bool) := if (l0.length : Int) > 1048576 then (some true) else (if (l2.length : Int) > 1048576 then (some true) else ((laws_szScan.f l1_0 a1_1 a1_2 a1_3 a1_4 1048576).bind fun t223 => (if t223 < 0 then (some true) else ((laws_toIntS.f k l0).bind fun t224 => ((laws_toScan.f k l1_0 a1_1 a1_2 a1_3 a1_4).bind fun bt227 => ((laws_toIntS.f k l2).bind fun t234 => ((spec_PutFirst.f k t224 bt227.1 bt227.2.1 bt227.2.2.1 bt227.2.2.2.1 bt227.2.2.2.2 t234).bind fun t237 => ((laws_toIntS.f k l0).bind fun t240 => ((laws_toScan.f k l1_0 a1_1 a1_2 a1_3 a1_4).bind fun bt243 => ((laws_toIntS.f k l2).bind fun t251 => ((impl_PutFirst.f k t240 bt243.1 bt243.2.1 bt243.2.2.1 bt243.2.2.2.1 bt243.2.2.2.2 t251).bind fun t254 => ((laws_eqIntS.f k t254 t237).bind fun t257 => (if t257 = true then ((laws_toIntS.f k l0).bind fun t258 => ((laws_eqIntS.f k t240 t258).bind fun t261 => (if t261 = true then ((laws_toScan.f k l1_0 a1_1 a1_2 a1_3 a1_4).bind fun bt262 => ((laws_eqScan.f k bt243.1 bt243.2.1 bt243.2.2.1 bt243.2.2.2.1 bt243.2.2.2.2 bt262.1 bt262.2.1 bt262.2.2.1 bt262.2.2.2.1 bt262.2.2.2.2).bind fun t269 => (if t269 = true then ((laws_toIntS.f k l2).bind fun t270 => ((laws_eqIntS.f k t251 t270).bind fun t273 => (if t273 = true then ((laws_markIntS.f k t240 1).bind fun bt274 => ((laws_markScan.f k bt243.1 bt243.2.1 bt243.2.2.1 bt243.2.2.2.1 bt243.2.2.2.2 bt274.1).bind fun bt276 => ((laws_markIntS.f k t251 bt276.1).bind fun bt278 => (if bt278.1 < 0 then (laws_FnExactPutFirst.j0 k l0 l2 t237 t254 true l1_0 a1_1 a1_2 a1_3 a1_4) else ((laws_eqIntS.f k t254 t237).bind fun t280 => (laws_FnExactPutFirst.j0 k l0 l2 t237 t254 (!t280) l1_0 a1_1 a1_2 a1_3 a1_4)))))) else (some false)))) else (some false)))) else (some false)))) else (some false))))))))))))))
theorem laws_FnExactPutFirst.mono_l : ∀ k, (∀ y0 y1 y2 y3 y4 y5 y6 y7 y8 y9, LeO (laws_FnExactPutFirst.j0 k y0 y1 y2 y3 y4 y5 y6 y7 y8 y9) (laws_FnExactPutFirst.j0 (k + 1) y0 y1 y2 y3 y4 y5 y6 y7 y8 y9))
  | 0 => fun _ _ _ _ _ _ _ _ _ _ r h => by simp [laws_FnExactPutFirst.j0] at h
  | k + 1 => by
    have ih0 := laws_FnExactPutFirst.mono_l k
    · intro y0 y1 y2 y3 y4 y5 y6 y7 y8 y9
      unfold laws_FnExactPutFirst.j0
      repeat' first
      | (with_reducible exact ih0 _ _ _ _ _ _ _ _ _ _)
      | (with_reducible exact impl_PutFirst.mono _ _ _ _ _ _ _ _)
      | (with_reducible exact laws_eqIntS.mono _ _ _)
      | (with_reducible exact laws_eqScan.mono _ _ _ _ _ _ _ _ _ _ _)
      | (with_reducible exact laws_heldIntS.mono _ _ _)
      | (with_reducible exact laws_markIntS.mono _ _ _)
      | (with_reducible exact laws_markScan.mono _ _ _ _ _ _ _)
      | (with_reducible exact laws_toIntS.mono _ _)
      | (with_reducible exact laws_toScan.mono _ _ _ _ _ _)
      | (with_reducible exact spec_PutFirst.mono _ _ _ _ _ _ _ _)
      | (with_reducible exact LeO.refl _)
      | (with_reducible exact LeO.none _)
      | (with_reducible refine LeO.ite ?_ ?_)
      | (with_reducible refine LeO.bind ?_ (fun _ => ?_))
      | exact ih0 _ _ _ _ _ _ _ _ _ _
      | exact impl_PutFirst.mono _ _ _ _ _ _ _ _
      | exact laws_eqIntS.mono _ _ _
      | exact laws_eqScan.mono _ _ _ _ _ _ _ _ _ _ _
      | exact laws_heldIntS.mono _ _ _
      | exact laws_markIntS.mono _ _ _
      | exact laws_markScan.mono _ _ _ _ _ _ _
      | exact laws_toIntS.mono _ _
      | exact laws_toScan.mono _ _ _ _ _ _
      | exact spec_PutFirst.mono _ _ _ _ _ _ _ _
      | exact LeO.none _
      | refine LeO.ite ?_ ?_
      | refine LeO.bind ?_ (fun _ => ?_)
theorem laws_FnExactPutFirst.mono : ∀ a0 a1 a2 a3 a4 a5 a6 k, LeO (laws_FnExactPutFirst.f k a0 a1 a2 a3 a4 a5 a6) (laws_FnExactPutFirst.f (k + 1) a0 a1 a2 a3 a4 a5 a6) := by
  intro a0 a1 a2 a3 a4 a5 a6 k
  have ih0 := laws_FnExactPutFirst.mono_l k
  unfold laws_FnExactPutFirst.f
  repeat' first
      | (with_reducible exact ih0 _ _ _ _ _ _ _ _ _ _)
      | (with_reducible exact impl_PutFirst.mono _ _ _ _ _ _ _ _)
      | (with_reducible exact laws_eqIntS.mono _ _ _)
      | (with_reducible exact laws_eqScan.mono _ _ _ _ _ _ _ _ _ _ _)
      | (with_reducible exact laws_heldIntS.mono _ _ _)
      | (with_reducible exact laws_markIntS.mono _ _ _)
      | (with_reducible exact laws_markScan.mono _ _ _ _ _ _ _)
      | (with_reducible exact laws_toIntS.mono _ _)
      | (with_reducible exact laws_toScan.mono _ _ _ _ _ _)
      | (with_reducible exact spec_PutFirst.mono _ _ _ _ _ _ _ _)
      | (with_reducible exact LeO.refl _)
      | (with_reducible exact LeO.none _)
      | (with_reducible refine LeO.ite ?_ ?_)
      | (with_reducible refine LeO.bind ?_ (fun _ => ?_))
      | exact ih0 _ _ _ _ _ _ _ _ _ _
      | exact impl_PutFirst.mono _ _ _ _ _ _ _ _
      | exact laws_eqIntS.mono _ _ _
      | exact laws_eqScan.mono _ _ _ _ _ _ _ _ _ _ _
      | exact laws_heldIntS.mono _ _ _
      | exact laws_markIntS.mono _ _ _
      | exact laws_markScan.mono _ _ _ _ _ _ _
      | exact laws_toIntS.mono _ _
      | exact laws_toScan.mono _ _ _ _ _ _
      | exact spec_PutFirst.mono _ _ _ _ _ _ _ _
      | exact LeO.none _
      | refine LeO.ite ?_ ?_
      | refine LeO.bind ?_ (fun _ => ?_)
def laws_FnExactPutFirst.T9 : Bool × List (List Nat × List Nat) := (true, [([], []), ([0], [0]), ([], []), ([2, 1], [2]), ([], []), ([4, 3], [4]), ([1, 3, 5, 5], [1, 3, 5]), ([6, 6, 0, 1, 2, 3, 4, 5, 6], [6])])
def laws_FnExactPutFirst.B9 : List Nat := [0, 1, 0, 7, 0, 31, 63, 127]
theorem laws_FnExactPutFirst.tab9 : rtab .any (opsOf Try.f4 9) = laws_FnExactPutFirst.T9 := by kernel_rfl
theorem laws_FnExactPutFirst.bits9 : waitsOk laws_FnExactPutFirst.T9.2 laws_FnExactPutFirst.B9 = true := by kernel_rfl
def laws_FnExactPutFirst.T36 : Bool × List (List Nat × List Nat) := (true, [([], []), ([0], [0]), ([], []), ([2, 1], [2]), ([], []), ([4, 3], [4]), ([1, 3, 5, 5], [1, 3, 5]), ([6, 6, 0, 1, 2, 3, 4, 5, 6], [6])])
def laws_FnExactPutFirst.B36 : List Nat := [0, 1, 0, 7, 0, 31, 63, 127]
theorem laws_FnExactPutFirst.tab36 : rtab .any (opsOf Try.f4 36) = laws_FnExactPutFirst.T36 := by kernel_rfl
theorem laws_FnExactPutFirst.bits36 : waitsOk laws_FnExactPutFirst.T36.2 laws_FnExactPutFirst.B36 = true := by kernel_rfl
set_option maxHeartbeats 8000000 in
set_option maxRecDepth 100000 in
theorem laws_FnExactPutFirst.calls (k : Nat) (A0 : Option Addr) (c0 : Nat) (l0 : List Int) (A1_0 : Option Addr) (c1_0 : Nat) (l1_0 : List Int) (a1_1 : Int) (a1_2 : Int) (a1_3 : Int) (a1_4 : Int) (A2 : Option Addr) (c2 : Nat) (l2 : List Int) (r : Bool) (w : World) (hr0 : Kd.C (Kd.int .i64) w A0 l0.length l0) (hc0 : l0.length ≤ c0) (hr1_0 : Kd.C (Kd.int .i64) w A1_0 l1_0.length l1_0) (hc1_0 : l1_0.length ≤ c1_0) (hr2 : Kd.C (Kd.int .i64) w A2 l2.length l2) (hc2 : l2.length ≤ c2) (HTRUE_ : Aside0 (r = true)) (h : laws_FnExactPutFirst.f k l0 l1_0 a1_1 a1_2 a1_3 a1_4 l2 = some r) :
    Calls Try.prog 4 #[.slice A0 l0.length c0, .agg #[.slice A1_0 l1_0.length c1_0, .int .i64 a1_1, .int .i64 a1_2, .int .i64 a1_3, .int .i64 a1_4], .slice A2 l2.length c2] w fun e w' => e = .returned (.bool r) ∧ Below w.heap.size w w' := by
  have hu24 := Try.underlying24
  have hu28 := Try.underlying28
  have HR0 := Aside0.mk hr0
  have HC0 := Aside0.mk hc0
  clear hr0 hc0
  have HR1_0 := Aside0.mk hr1_0
  have HC1_0 := Aside0.mk hc1_0
  clear hr1_0 hc1_0
  have HR2 := Aside0.mk hr2
  have HC2 := Aside0.mk hc2
  clear hr2 hc2
  have HB := Aside0.mk (Below.refl w.heap.size w)
  have H : (if (l0.length : Int) > 1048576 then (some true) else (if (l2.length : Int) > 1048576 then (some true) else ((laws_szScan.f l1_0 a1_1 a1_2 a1_3 a1_4 1048576).bind fun t223 => (if t223 < 0 then (some true) else ((laws_toIntS.f k l0).bind fun t224 => ((laws_toScan.f k l1_0 a1_1 a1_2 a1_3 a1_4).bind fun bt227 => ((laws_toIntS.f k l2).bind fun t234 => ((spec_PutFirst.f k t224 bt227.1 bt227.2.1 bt227.2.2.1 bt227.2.2.2.1 bt227.2.2.2.2 t234).bind fun t237 => ((laws_toIntS.f k l0).bind fun t240 => ((laws_toScan.f k l1_0 a1_1 a1_2 a1_3 a1_4).bind fun bt243 => ((laws_toIntS.f k l2).bind fun t251 => ((impl_PutFirst.f k t240 bt243.1 bt243.2.1 bt243.2.2.1 bt243.2.2.2.1 bt243.2.2.2.2 t251).bind fun t254 => ((laws_eqIntS.f k t254 t237).bind fun t257 => (if t257 = true then ((laws_toIntS.f k l0).bind fun t258 => ((laws_eqIntS.f k t240 t258).bind fun t261 => (if t261 = true then ((laws_toScan.f k l1_0 a1_1 a1_2 a1_3 a1_4).bind fun bt262 => ((laws_eqScan.f k bt243.1 bt243.2.1 bt243.2.2.1 bt243.2.2.2.1 bt243.2.2.2.2 bt262.1 bt262.2.1 bt262.2.2.1 bt262.2.2.2.1 bt262.2.2.2.2).bind fun t269 => (if t269 = true then ((laws_toIntS.f k l2).bind fun t270 => ((laws_eqIntS.f k t251 t270).bind fun t273 => (if t273 = true then ((laws_markIntS.f k t240 1).bind fun bt274 => ((laws_markScan.f k bt243.1 bt243.2.1 bt243.2.2.1 bt243.2.2.2.1 bt243.2.2.2.2 bt274.1).bind fun bt276 => ((laws_markIntS.f k t251 bt276.1).bind fun bt278 => (if bt278.1 < 0 then (laws_FnExactPutFirst.j0 k l0 l2 t237 t254 true l1_0 a1_1 a1_2 a1_3 a1_4) else ((laws_eqIntS.f k t254 t237).bind fun t280 => (laws_FnExactPutFirst.j0 k l0 l2 t237 t254 (!t280) l1_0 a1_1 a1_2 a1_3 a1_4)))))) else (some false)))) else (some false)))) else (some false)))) else (some false))))))))))))))) = some r := h
  clear h
  by_cases c4 : (l0.length : Int) > 1048576
  · rw [if_pos c4] at H
    have c4b0 : decide (1048576 < (l0.length : Int)) = true := decide_eq_true c4
    have c4b1 : decide (1048576 < l0.length) = true := decide_eq_true (by omega)
    clear c4
    obtain rfl := Option.some.inj H
    go_enter Try.func4, Try.ntmps4
    go_wp2_with (first | ((with_reducible refine gate_dst (N := 4) rfl ?_); refine box_event ?hg (N := 4) ?hd (cs := #[.slice A1_0 l1_0.length c1_0, .int .i64 a1_1, .int .i64 a1_2, .int .i64 a1_3, .int .i64 a1_4]) (t := 24) ?hr ?_; (case hd => rfl); (case hg => rfl); (case hr => first | (go_simp; done) | (go_simp; rfl)); intro gb222 hg w5 hbox hb; have n0_ := Aside0.mk (below_step (by repeat (first | (with_reducible first | exact HB.out | apply below_alloc | apply pw_below_drewN | apply below_drew1) | exact HB.out)) hb); have n1_ := Aside0.mk (hbox); have n2_ := Aside0.mk ((by rw [hg]; exact (below_size (by repeat (first | (with_reducible first | exact HB.out | apply below_alloc | apply pw_below_drewN | apply below_drew1) | exact HB.out))) : w.heap.size ≤ gb222)); have n3_ := Aside0.mk ((by rw [hg]; exact (below_size (by repeat (first | (with_reducible first | exact HB.out | apply below_alloc | apply pw_below_drewN | apply below_drew1) | exact HB.out))) : w.heap.size ≤ gb222)); clear HB; have HB := n0_; have BK222 := n1_; have GW222 := n2_; have GE222 := n3_; clear n0_ n1_ n2_ n3_; clear hb hbox hg))
    go_ret
    exact ⟨by first | rfl | (simp [errW_none, errW_some] <;> rfl) | (simp [*, errW_none, errW_some] <;> rfl), by repeat (first | (with_reducible first | exact HB.out | apply below_alloc | apply pw_below_drewN | apply below_drew1 | refine below_set ?_ GE222.out) | exact HB.out)⟩
  · rw [if_neg c4] at H
    have c4b0 : decide (1048576 < (l0.length : Int)) = false := decide_eq_false c4
    have c4b1 : decide (1048576 < l0.length) = false := decide_eq_false (by omega)
    clear c4
    by_cases c6 : (l2.length : Int) > 1048576
    · rw [if_pos c6] at H
      have c6b0 : decide (1048576 < (l2.length : Int)) = true := decide_eq_true c6
      have c6b1 : decide (1048576 < l2.length) = true := decide_eq_true (by omega)
      clear c6
      obtain rfl := Option.some.inj H
      go_enter Try.func4, Try.ntmps4
      go_wp2_with (first | ((with_reducible refine gate_dst (N := 4) rfl ?_); refine box_event ?hg (N := 4) ?hd (cs := #[.slice A1_0 l1_0.length c1_0, .int .i64 a1_1, .int .i64 a1_2, .int .i64 a1_3, .int .i64 a1_4]) (t := 24) ?hr ?_; (case hd => rfl); (case hg => rfl); (case hr => first | (go_simp; done) | (go_simp; rfl)); intro gb222 hg w7 hbox hb; have n0_ := Aside0.mk (below_step (by repeat (first | (with_reducible first | exact HB.out | apply below_alloc | apply pw_below_drewN | apply below_drew1) | exact HB.out)) hb); have n1_ := Aside0.mk (hbox); have n2_ := Aside0.mk ((by rw [hg]; exact (below_size (by repeat (first | (with_reducible first | exact HB.out | apply below_alloc | apply pw_below_drewN | apply below_drew1) | exact HB.out))) : w.heap.size ≤ gb222)); have n3_ := Aside0.mk ((by rw [hg]; exact (below_size (by repeat (first | (with_reducible first | exact HB.out | apply below_alloc | apply pw_below_drewN | apply below_drew1) | exact HB.out))) : w.heap.size ≤ gb222)); clear HB; have HB := n0_; have BK222 := n1_; have GW222 := n2_; have GE222 := n3_; clear n0_ n1_ n2_ n3_; clear hb hbox hg))
      go_ret
      exact ⟨by first | rfl | (simp [errW_none, errW_some] <;> rfl) | (simp [*, errW_none, errW_some] <;> rfl), by repeat (first | (with_reducible first | exact HB.out | apply below_alloc | apply pw_below_drewN | apply below_drew1 | refine below_set ?_ GE222.out) | exact HB.out)⟩
    · rw [if_neg c6] at H
      have c6b0 : decide (1048576 < (l2.length : Int)) = false := decide_eq_false c6
      have c6b1 : decide (1048576 < l2.length) = false := decide_eq_false (by omega)
      clear c6
      replace H := Option.bind_eq_some_iff.mp H
      obtain ⟨t223, A80, H⟩ := H
      replace H : (if t223 < 0 then (some true) else ((laws_toIntS.f k l0).bind fun t224 => ((laws_toScan.f k l1_0 a1_1 a1_2 a1_3 a1_4).bind fun bt227 => ((laws_toIntS.f k l2).bind fun t234 => ((spec_PutFirst.f k t224 bt227.1 bt227.2.1 bt227.2.2.1 bt227.2.2.2.1 bt227.2.2.2.2 t234).bind fun t237 => ((laws_toIntS.f k l0).bind fun t240 => ((laws_toScan.f k l1_0 a1_1 a1_2 a1_3 a1_4).bind fun bt243 => ((laws_toIntS.f k l2).bind fun t251 => ((impl_PutFirst.f k t240 bt243.1 bt243.2.1 bt243.2.2.1 bt243.2.2.2.1 bt243.2.2.2.2 t251).bind fun t254 => ((laws_eqIntS.f k t254 t237).bind fun t257 => (if t257 = true then ((laws_toIntS.f k l0).bind fun t258 => ((laws_eqIntS.f k t240 t258).bind fun t261 => (if t261 = true then ((laws_toScan.f k l1_0 a1_1 a1_2 a1_3 a1_4).bind fun bt262 => ((laws_eqScan.f k bt243.1 bt243.2.1 bt243.2.2.1 bt243.2.2.2.1 bt243.2.2.2.2 bt262.1 bt262.2.1 bt262.2.2.1 bt262.2.2.2.1 bt262.2.2.2.2).bind fun t269 => (if t269 = true then ((laws_toIntS.f k l2).bind fun t270 => ((laws_eqIntS.f k t251 t270).bind fun t273 => (if t273 = true then ((laws_markIntS.f k t240 1).bind fun bt274 => ((laws_markScan.f k bt243.1 bt243.2.1 bt243.2.2.1 bt243.2.2.2.1 bt243.2.2.2.2 bt274.1).bind fun bt276 => ((laws_markIntS.f k t251 bt276.1).bind fun bt278 => (if bt278.1 < 0 then (laws_FnExactPutFirst.j0 k l0 l2 t237 t254 true l1_0 a1_1 a1_2 a1_3 a1_4) else ((laws_eqIntS.f k t254 t237).bind fun t280 => (laws_FnExactPutFirst.j0 k l0 l2 t237 t254 (!t280) l1_0 a1_1 a1_2 a1_3 a1_4)))))) else (some false)))) else (some false)))) else (some false)))) else (some false)))))))))))) = some r := H
      have A8 := Aside0.mk A80
      clear A80
      by_cases c9 : t223 < 0
      · rw [if_pos c9] at H
        have c9b0 : decide (t223 < 0) = true := decide_eq_true c9
        clear c9
        obtain rfl := Option.some.inj H
        go_enter Try.func4, Try.ntmps4
        go_wp2_with (first | ((with_reducible refine gate_dst (N := 4) rfl ?_); refine box_event ?hg (N := 4) ?hd (cs := #[.slice A1_0 l1_0.length c1_0, .int .i64 a1_1, .int .i64 a1_2, .int .i64 a1_3, .int .i64 a1_4]) (t := 24) ?hr ?_; (case hd => rfl); (case hg => rfl); (case hr => first | (go_simp; done) | (go_simp; rfl)); intro gb222 hg w10 hbox hb; have n0_ := Aside0.mk (below_step (by repeat (first | (with_reducible first | exact HB.out | apply below_alloc | apply pw_below_drewN | apply below_drew1) | exact HB.out)) hb); have n1_ := Aside0.mk (hbox); have n2_ := Aside0.mk ((by rw [hg]; exact (below_size (by repeat (first | (with_reducible first | exact HB.out | apply below_alloc | apply pw_below_drewN | apply below_drew1) | exact HB.out))) : w.heap.size ≤ gb222)); have n3_ := Aside0.mk ((by rw [hg]; exact (below_size (by repeat (first | (with_reducible first | exact HB.out | apply below_alloc | apply pw_below_drewN | apply below_drew1) | exact HB.out))) : w.heap.size ≤ gb222)); clear HB; have HB := n0_; have BK222 := n1_; have GW222 := n2_; have GE222 := n3_; clear n0_ n1_ n2_ n3_; clear hb hbox hg; have hcz11_0 : w10.cell? ⟨gb222, 0, none⟩ = some (.slice A1_0 l1_0.length c1_0) := (blk_cell BK222.out 0).trans rfl; have hcz11_1 : w10.cell? ⟨gb222, 1, none⟩ = some (.int .i64 a1_1) := (blk_cell BK222.out 1).trans rfl; have hcz11_2 : w10.cell? ⟨gb222, 2, none⟩ = some (.int .i64 a1_2) := (blk_cell BK222.out 2).trans rfl; have hcz11_3 : w10.cell? ⟨gb222, 3, none⟩ = some (.int .i64 a1_3) := (blk_cell BK222.out 3).trans rfl; have hcz11_4 : w10.cell? ⟨gb222, 4, none⟩ = some (.int .i64 a1_4) := (blk_cell BK222.out 4).trans rfl; have hfz11_0 := blk_frozen BK222.out 0; have hfz11_1 := blk_frozen BK222.out 1; have hfz11_2 := blk_frozen BK222.out 2; have hfz11_3 := blk_frozen BK222.out 3; have hfz11_4 := blk_frozen BK222.out 4) | ((with_reducible refine gate_callee (f := 15) rfl ?_); refine goesL_ (some 25) rfl rfl Try.func15 (by kernel_rfl) rfl #[.agg #[.slice A1_0 l1_0.length c1_0, .int .i64 a1_1, .int .i64 a1_2, .int .i64 a1_3, .int .i64 a1_4], .int .i64 1048576] rfl (by (try simp only [List.map_toArray, List.map_cons, List.map_nil]); first | done | rfl | (simp only [List.length_drop, List.length_take]; rfl)) ?_; (with_reducible refine (laws_szScan.calls _ _ l1_0 a1_1 a1_2 a1_3 a1_4 1048576 t223 _ ?side1 ?side2 A8.out).mono ?_); (case side1 => repeat (first | exact (Kd.C_below HR1_0.out HB.out) | (with_reducible refine Kd.C_alloc ?_ _) | (with_reducible refine Kd.C_drewN ?_ _) | (with_reducible refine Kd.C_drew ?_))); (case side2 => exact HC1_0.out); rintro e w12 ⟨rfl, hb⟩; refine ⟨_, rfl, ?_⟩; have n0_ := Aside0.mk (blk_below (g := gb222) (o := .cells #[.slice A1_0 l1_0.length c1_0, .int .i64 a1_1, .int .i64 a1_2, .int .i64 a1_3, .int .i64 a1_4] 24 (0, 0)) (by (with_reducible repeat (first | refine blk_drewN ?_ _ | refine blk_drew ?_ | refine blk_alloc ?_ _)); exact BK222.out) hb); have n1_ := Aside0.mk (below_step (by repeat (first | (with_reducible first | exact HB.out | apply below_alloc | apply pw_below_drewN | apply below_drew1 | refine below_set ?_ GE222.out) | exact HB.out)) hb); clear BK222; clear HB; have BK222 := n0_; have HB := n1_; clear n0_ n1_; (try clear hb); (try clear hb2); (try clear hk); (try clear hi)))
        go_ret
        exact ⟨by first | rfl | (simp [errW_none, errW_some] <;> rfl) | (simp [*, errW_none, errW_some] <;> rfl), by repeat (first | (with_reducible first | exact HB.out | apply below_alloc | apply pw_below_drewN | apply below_drew1 | refine below_set ?_ GE222.out) | exact HB.out)⟩
      · rw [if_neg c9] at H
        have c9b0 : decide (t223 < 0) = false := decide_eq_false c9
        clear c9
        replace H := Option.bind_eq_some_iff.mp H
        obtain ⟨t224, A130, H⟩ := H
        replace H : ((laws_toScan.f k l1_0 a1_1 a1_2 a1_3 a1_4).bind fun bt227 => ((laws_toIntS.f k l2).bind fun t234 => ((spec_PutFirst.f k t224 bt227.1 bt227.2.1 bt227.2.2.1 bt227.2.2.2.1 bt227.2.2.2.2 t234).bind fun t237 => ((laws_toIntS.f k l0).bind fun t240 => ((laws_toScan.f k l1_0 a1_1 a1_2 a1_3 a1_4).bind fun bt243 => ((laws_toIntS.f k l2).bind fun t251 => ((impl_PutFirst.f k t240 bt243.1 bt243.2.1 bt243.2.2.1 bt243.2.2.2.1 bt243.2.2.2.2 t251).bind fun t254 => ((laws_eqIntS.f k t254 t237).bind fun t257 => (if t257 = true then ((laws_toIntS.f k l0).bind fun t258 => ((laws_eqIntS.f k t240 t258).bind fun t261 => (if t261 = true then ((laws_toScan.f k l1_0 a1_1 a1_2 a1_3 a1_4).bind fun bt262 => ((laws_eqScan.f k bt243.1 bt243.2.1 bt243.2.2.1 bt243.2.2.2.1 bt243.2.2.2.2 bt262.1 bt262.2.1 bt262.2.2.1 bt262.2.2.2.1 bt262.2.2.2.2).bind fun t269 => (if t269 = true then ((laws_toIntS.f k l2).bind fun t270 => ((laws_eqIntS.f k t251 t270).bind fun t273 => (if t273 = true then ((laws_markIntS.f k t240 1).bind fun bt274 => ((laws_markScan.f k bt243.1 bt243.2.1 bt243.2.2.1 bt243.2.2.2.1 bt243.2.2.2.2 bt274.1).bind fun bt276 => ((laws_markIntS.f k t251 bt276.1).bind fun bt278 => (if bt278.1 < 0 then (laws_FnExactPutFirst.j0 k l0 l2 t237 t254 true l1_0 a1_1 a1_2 a1_3 a1_4) else ((laws_eqIntS.f k t254 t237).bind fun t280 => (laws_FnExactPutFirst.j0 k l0 l2 t237 t254 (!t280) l1_0 a1_1 a1_2 a1_3 a1_4)))))) else (some false)))) else (some false)))) else (some false)))) else (some false)))))))))) = some r := H
        have A13 := Aside0.mk A130
        clear A130
        replace H := Option.bind_eq_some_iff.mp H
        obtain ⟨⟨t227, t230, t231, t232, t233⟩, A140, H⟩ := H
        replace H : ((laws_toIntS.f k l2).bind fun t234 => ((spec_PutFirst.f k t224 t227 t230 t231 t232 t233 t234).bind fun t237 => ((laws_toIntS.f k l0).bind fun t240 => ((laws_toScan.f k l1_0 a1_1 a1_2 a1_3 a1_4).bind fun bt243 => ((laws_toIntS.f k l2).bind fun t251 => ((impl_PutFirst.f k t240 bt243.1 bt243.2.1 bt243.2.2.1 bt243.2.2.2.1 bt243.2.2.2.2 t251).bind fun t254 => ((laws_eqIntS.f k t254 t237).bind fun t257 => (if t257 = true then ((laws_toIntS.f k l0).bind fun t258 => ((laws_eqIntS.f k t240 t258).bind fun t261 => (if t261 = true then ((laws_toScan.f k l1_0 a1_1 a1_2 a1_3 a1_4).bind fun bt262 => ((laws_eqScan.f k bt243.1 bt243.2.1 bt243.2.2.1 bt243.2.2.2.1 bt243.2.2.2.2 bt262.1 bt262.2.1 bt262.2.2.1 bt262.2.2.2.1 bt262.2.2.2.2).bind fun t269 => (if t269 = true then ((laws_toIntS.f k l2).bind fun t270 => ((laws_eqIntS.f k t251 t270).bind fun t273 => (if t273 = true then ((laws_markIntS.f k t240 1).bind fun bt274 => ((laws_markScan.f k bt243.1 bt243.2.1 bt243.2.2.1 bt243.2.2.2.1 bt243.2.2.2.2 bt274.1).bind fun bt276 => ((laws_markIntS.f k t251 bt276.1).bind fun bt278 => (if bt278.1 < 0 then (laws_FnExactPutFirst.j0 k l0 l2 t237 t254 true l1_0 a1_1 a1_2 a1_3 a1_4) else ((laws_eqIntS.f k t254 t237).bind fun t280 => (laws_FnExactPutFirst.j0 k l0 l2 t237 t254 (!t280) l1_0 a1_1 a1_2 a1_3 a1_4)))))) else (some false)))) else (some false)))) else (some false)))) else (some false))))))))) = some r := H
        have A14 := Aside0.mk A140
        clear A140
        replace H := Option.bind_eq_some_iff.mp H
        obtain ⟨t234, A150, H⟩ := H
        replace H : ((spec_PutFirst.f k t224 t227 t230 t231 t232 t233 t234).bind fun t237 => ((laws_toIntS.f k l0).bind fun t240 => ((laws_toScan.f k l1_0 a1_1 a1_2 a1_3 a1_4).bind fun bt243 => ((laws_toIntS.f k l2).bind fun t251 => ((impl_PutFirst.f k t240 bt243.1 bt243.2.1 bt243.2.2.1 bt243.2.2.2.1 bt243.2.2.2.2 t251).bind fun t254 => ((laws_eqIntS.f k t254 t237).bind fun t257 => (if t257 = true then ((laws_toIntS.f k l0).bind fun t258 => ((laws_eqIntS.f k t240 t258).bind fun t261 => (if t261 = true then ((laws_toScan.f k l1_0 a1_1 a1_2 a1_3 a1_4).bind fun bt262 => ((laws_eqScan.f k bt243.1 bt243.2.1 bt243.2.2.1 bt243.2.2.2.1 bt243.2.2.2.2 bt262.1 bt262.2.1 bt262.2.2.1 bt262.2.2.2.1 bt262.2.2.2.2).bind fun t269 => (if t269 = true then ((laws_toIntS.f k l2).bind fun t270 => ((laws_eqIntS.f k t251 t270).bind fun t273 => (if t273 = true then ((laws_markIntS.f k t240 1).bind fun bt274 => ((laws_markScan.f k bt243.1 bt243.2.1 bt243.2.2.1 bt243.2.2.2.1 bt243.2.2.2.2 bt274.1).bind fun bt276 => ((laws_markIntS.f k t251 bt276.1).bind fun bt278 => (if bt278.1 < 0 then (laws_FnExactPutFirst.j0 k l0 l2 t237 t254 true l1_0 a1_1 a1_2 a1_3 a1_4) else ((laws_eqIntS.f k t254 t237).bind fun t280 => (laws_FnExactPutFirst.j0 k l0 l2 t237 t254 (!t280) l1_0 a1_1 a1_2 a1_3 a1_4)))))) else (some false)))) else (some false)))) else (some false)))) else (some false)))))))) = some r := H
        have A15 := Aside0.mk A150
        clear A150
        replace H := Option.bind_eq_some_iff.mp H
        obtain ⟨t237, A160, H⟩ := H
        replace H : ((laws_toIntS.f k l0).bind fun t240 => ((laws_toScan.f k l1_0 a1_1 a1_2 a1_3 a1_4).bind fun bt243 => ((laws_toIntS.f k l2).bind fun t251 => ((impl_PutFirst.f k t240 bt243.1 bt243.2.1 bt243.2.2.1 bt243.2.2.2.1 bt243.2.2.2.2 t251).bind fun t254 => ((laws_eqIntS.f k t254 t237).bind fun t257 => (if t257 = true then ((laws_toIntS.f k l0).bind fun t258 => ((laws_eqIntS.f k t240 t258).bind fun t261 => (if t261 = true then ((laws_toScan.f k l1_0 a1_1 a1_2 a1_3 a1_4).bind fun bt262 => ((laws_eqScan.f k bt243.1 bt243.2.1 bt243.2.2.1 bt243.2.2.2.1 bt243.2.2.2.2 bt262.1 bt262.2.1 bt262.2.2.1 bt262.2.2.2.1 bt262.2.2.2.2).bind fun t269 => (if t269 = true then ((laws_toIntS.f k l2).bind fun t270 => ((laws_eqIntS.f k t251 t270).bind fun t273 => (if t273 = true then ((laws_markIntS.f k t240 1).bind fun bt274 => ((laws_markScan.f k bt243.1 bt243.2.1 bt243.2.2.1 bt243.2.2.2.1 bt243.2.2.2.2 bt274.1).bind fun bt276 => ((laws_markIntS.f k t251 bt276.1).bind fun bt278 => (if bt278.1 < 0 then (laws_FnExactPutFirst.j0 k l0 l2 t237 t254 true l1_0 a1_1 a1_2 a1_3 a1_4) else ((laws_eqIntS.f k t254 t237).bind fun t280 => (laws_FnExactPutFirst.j0 k l0 l2 t237 t254 (!t280) l1_0 a1_1 a1_2 a1_3 a1_4)))))) else (some false)))) else (some false)))) else (some false)))) else (some false))))))) = some r := H
        have A16 := Aside0.mk A160
        clear A160
        replace H := Option.bind_eq_some_iff.mp H
        obtain ⟨t240, A170, H⟩ := H
        replace H : ((laws_toScan.f k l1_0 a1_1 a1_2 a1_3 a1_4).bind fun bt243 => ((laws_toIntS.f k l2).bind fun t251 => ((impl_PutFirst.f k t240 bt243.1 bt243.2.1 bt243.2.2.1 bt243.2.2.2.1 bt243.2.2.2.2 t251).bind fun t254 => ((laws_eqIntS.f k t254 t237).bind fun t257 => (if t257 = true then ((laws_toIntS.f k l0).bind fun t258 => ((laws_eqIntS.f k t240 t258).bind fun t261 => (if t261 = true then ((laws_toScan.f k l1_0 a1_1 a1_2 a1_3 a1_4).bind fun bt262 => ((laws_eqScan.f k bt243.1 bt243.2.1 bt243.2.2.1 bt243.2.2.2.1 bt243.2.2.2.2 bt262.1 bt262.2.1 bt262.2.2.1 bt262.2.2.2.1 bt262.2.2.2.2).bind fun t269 => (if t269 = true then ((laws_toIntS.f k l2).bind fun t270 => ((laws_eqIntS.f k t251 t270).bind fun t273 => (if t273 = true then ((laws_markIntS.f k t240 1).bind fun bt274 => ((laws_markScan.f k bt243.1 bt243.2.1 bt243.2.2.1 bt243.2.2.2.1 bt243.2.2.2.2 bt274.1).bind fun bt276 => ((laws_markIntS.f k t251 bt276.1).bind fun bt278 => (if bt278.1 < 0 then (laws_FnExactPutFirst.j0 k l0 l2 t237 t254 true l1_0 a1_1 a1_2 a1_3 a1_4) else ((laws_eqIntS.f k t254 t237).bind fun t280 => (laws_FnExactPutFirst.j0 k l0 l2 t237 t254 (!t280) l1_0 a1_1 a1_2 a1_3 a1_4)))))) else (some false)))) else (some false)))) else (some false)))) else (some false)))))) = some r := H
        have A17 := Aside0.mk A170
        clear A170
        replace H := Option.bind_eq_some_iff.mp H
        obtain ⟨⟨t243, t246, t247, t248, t249⟩, A180, H⟩ := H
        replace H : ((laws_toIntS.f k l2).bind fun t251 => ((impl_PutFirst.f k t240 t243 t246 t247 t248 t249 t251).bind fun t254 => ((laws_eqIntS.f k t254 t237).bind fun t257 => (if t257 = true then ((laws_toIntS.f k l0).bind fun t258 => ((laws_eqIntS.f k t240 t258).bind fun t261 => (if t261 = true then ((laws_toScan.f k l1_0 a1_1 a1_2 a1_3 a1_4).bind fun bt262 => ((laws_eqScan.f k t243 t246 t247 t248 t249 bt262.1 bt262.2.1 bt262.2.2.1 bt262.2.2.2.1 bt262.2.2.2.2).bind fun t269 => (if t269 = true then ((laws_toIntS.f k l2).bind fun t270 => ((laws_eqIntS.f k t251 t270).bind fun t273 => (if t273 = true then ((laws_markIntS.f k t240 1).bind fun bt274 => ((laws_markScan.f k t243 t246 t247 t248 t249 bt274.1).bind fun bt276 => ((laws_markIntS.f k t251 bt276.1).bind fun bt278 => (if bt278.1 < 0 then (laws_FnExactPutFirst.j0 k l0 l2 t237 t254 true l1_0 a1_1 a1_2 a1_3 a1_4) else ((laws_eqIntS.f k t254 t237).bind fun t280 => (laws_FnExactPutFirst.j0 k l0 l2 t237 t254 (!t280) l1_0 a1_1 a1_2 a1_3 a1_4)))))) else (some false)))) else (some false)))) else (some false)))) else (some false))))) = some r := H
        have A18 := Aside0.mk A180
        clear A180
        replace H := Option.bind_eq_some_iff.mp H
        obtain ⟨t251, A190, H⟩ := H
        replace H : ((impl_PutFirst.f k t240 t243 t246 t247 t248 t249 t251).bind fun t254 => ((laws_eqIntS.f k t254 t237).bind fun t257 => (if t257 = true then ((laws_toIntS.f k l0).bind fun t258 => ((laws_eqIntS.f k t240 t258).bind fun t261 => (if t261 = true then ((laws_toScan.f k l1_0 a1_1 a1_2 a1_3 a1_4).bind fun bt262 => ((laws_eqScan.f k t243 t246 t247 t248 t249 bt262.1 bt262.2.1 bt262.2.2.1 bt262.2.2.2.1 bt262.2.2.2.2).bind fun t269 => (if t269 = true then ((laws_toIntS.f k l2).bind fun t270 => ((laws_eqIntS.f k t251 t270).bind fun t273 => (if t273 = true then ((laws_markIntS.f k t240 1).bind fun bt274 => ((laws_markScan.f k t243 t246 t247 t248 t249 bt274.1).bind fun bt276 => ((laws_markIntS.f k t251 bt276.1).bind fun bt278 => (if bt278.1 < 0 then (laws_FnExactPutFirst.j0 k l0 l2 t237 t254 true l1_0 a1_1 a1_2 a1_3 a1_4) else ((laws_eqIntS.f k t254 t237).bind fun t280 => (laws_FnExactPutFirst.j0 k l0 l2 t237 t254 (!t280) l1_0 a1_1 a1_2 a1_3 a1_4)))))) else (some false)))) else (some false)))) else (some false)))) else (some false)))) = some r := H
        have A19 := Aside0.mk A190
        clear A190
        replace H := Option.bind_eq_some_iff.mp H
        obtain ⟨t254, A200, H⟩ := H
        replace H : ((laws_eqIntS.f k t254 t237).bind fun t257 => (if t257 = true then ((laws_toIntS.f k l0).bind fun t258 => ((laws_eqIntS.f k t240 t258).bind fun t261 => (if t261 = true then ((laws_toScan.f k l1_0 a1_1 a1_2 a1_3 a1_4).bind fun bt262 => ((laws_eqScan.f k t243 t246 t247 t248 t249 bt262.1 bt262.2.1 bt262.2.2.1 bt262.2.2.2.1 bt262.2.2.2.2).bind fun t269 => (if t269 = true then ((laws_toIntS.f k l2).bind fun t270 => ((laws_eqIntS.f k t251 t270).bind fun t273 => (if t273 = true then ((laws_markIntS.f k t240 1).bind fun bt274 => ((laws_markScan.f k t243 t246 t247 t248 t249 bt274.1).bind fun bt276 => ((laws_markIntS.f k t251 bt276.1).bind fun bt278 => (if bt278.1 < 0 then (laws_FnExactPutFirst.j0 k l0 l2 t237 t254 true l1_0 a1_1 a1_2 a1_3 a1_4) else ((laws_eqIntS.f k t254 t237).bind fun t280 => (laws_FnExactPutFirst.j0 k l0 l2 t237 t254 (!t280) l1_0 a1_1 a1_2 a1_3 a1_4)))))) else (some false)))) else (some false)))) else (some false)))) else (some false))) = some r := H
        have A20 := Aside0.mk A200
        clear A200
        replace H := Option.bind_eq_some_iff.mp H
        obtain ⟨t257, A210, H⟩ := H
        replace H : (if t257 = true then ((laws_toIntS.f k l0).bind fun t258 => ((laws_eqIntS.f k t240 t258).bind fun t261 => (if t261 = true then ((laws_toScan.f k l1_0 a1_1 a1_2 a1_3 a1_4).bind fun bt262 => ((laws_eqScan.f k t243 t246 t247 t248 t249 bt262.1 bt262.2.1 bt262.2.2.1 bt262.2.2.2.1 bt262.2.2.2.2).bind fun t269 => (if t269 = true then ((laws_toIntS.f k l2).bind fun t270 => ((laws_eqIntS.f k t251 t270).bind fun t273 => (if t273 = true then ((laws_markIntS.f k t240 1).bind fun bt274 => ((laws_markScan.f k t243 t246 t247 t248 t249 bt274.1).bind fun bt276 => ((laws_markIntS.f k t251 bt276.1).bind fun bt278 => (if bt278.1 < 0 then (laws_FnExactPutFirst.j0 k l0 l2 t237 t254 true l1_0 a1_1 a1_2 a1_3 a1_4) else ((laws_eqIntS.f k t254 t237).bind fun t280 => (laws_FnExactPutFirst.j0 k l0 l2 t237 t254 (!t280) l1_0 a1_1 a1_2 a1_3 a1_4)))))) else (some false)))) else (some false)))) else (some false)))) else (some false)) = some r := H
        have A21 := Aside0.mk A210
        clear A210
        by_cases c22 : t257 = true
        · subst c22
          have H1 : ((laws_toIntS.f k l0).bind fun t258 => ((laws_eqIntS.f k t240 t258).bind fun t261 => (if t261 = true then ((laws_toScan.f k l1_0 a1_1 a1_2 a1_3 a1_4).bind fun bt262 => ((laws_eqScan.f k t243 t246 t247 t248 t249 bt262.1 bt262.2.1 bt262.2.2.1 bt262.2.2.2.1 bt262.2.2.2.2).bind fun t269 => (if t269 = true then ((laws_toIntS.f k l2).bind fun t270 => ((laws_eqIntS.f k t251 t270).bind fun t273 => (if t273 = true then ((laws_markIntS.f k t240 1).bind fun bt274 => ((laws_markScan.f k t243 t246 t247 t248 t249 bt274.1).bind fun bt276 => ((laws_markIntS.f k t251 bt276.1).bind fun bt278 => (if bt278.1 < 0 then (laws_FnExactPutFirst.j0 k l0 l2 t237 t254 true l1_0 a1_1 a1_2 a1_3 a1_4) else ((laws_eqIntS.f k t254 t237).bind fun t280 => (laws_FnExactPutFirst.j0 k l0 l2 t237 t254 (!t280) l1_0 a1_1 a1_2 a1_3 a1_4)))))) else (some false)))) else (some false)))) else (some false)))) = some r := by rw [if_pos rfl] at H; exact H
          clear H
          have H := H1
          clear H1
          replace H := Option.bind_eq_some_iff.mp H
          obtain ⟨t258, A230, H⟩ := H
          replace H : ((laws_eqIntS.f k t240 t258).bind fun t261 => (if t261 = true then ((laws_toScan.f k l1_0 a1_1 a1_2 a1_3 a1_4).bind fun bt262 => ((laws_eqScan.f k t243 t246 t247 t248 t249 bt262.1 bt262.2.1 bt262.2.2.1 bt262.2.2.2.1 bt262.2.2.2.2).bind fun t269 => (if t269 = true then ((laws_toIntS.f k l2).bind fun t270 => ((laws_eqIntS.f k t251 t270).bind fun t273 => (if t273 = true then ((laws_markIntS.f k t240 1).bind fun bt274 => ((laws_markScan.f k t243 t246 t247 t248 t249 bt274.1).bind fun bt276 => ((laws_markIntS.f k t251 bt276.1).bind fun bt278 => (if bt278.1 < 0 then (laws_FnExactPutFirst.j0 k l0 l2 t237 t254 true l1_0 a1_1 a1_2 a1_3 a1_4) else ((laws_eqIntS.f k t254 t237).bind fun t280 => (laws_FnExactPutFirst.j0 k l0 l2 t237 t254 (!t280) l1_0 a1_1 a1_2 a1_3 a1_4)))))) else (some false)))) else (some false)))) else (some false))) = some r := H
          have A23 := Aside0.mk A230
          clear A230
          replace H := Option.bind_eq_some_iff.mp H
          obtain ⟨t261, A240, H⟩ := H
          replace H : (if t261 = true then ((laws_toScan.f k l1_0 a1_1 a1_2 a1_3 a1_4).bind fun bt262 => ((laws_eqScan.f k t243 t246 t247 t248 t249 bt262.1 bt262.2.1 bt262.2.2.1 bt262.2.2.2.1 bt262.2.2.2.2).bind fun t269 => (if t269 = true then ((laws_toIntS.f k l2).bind fun t270 => ((laws_eqIntS.f k t251 t270).bind fun t273 => (if t273 = true then ((laws_markIntS.f k t240 1).bind fun bt274 => ((laws_markScan.f k t243 t246 t247 t248 t249 bt274.1).bind fun bt276 => ((laws_markIntS.f k t251 bt276.1).bind fun bt278 => (if bt278.1 < 0 then (laws_FnExactPutFirst.j0 k l0 l2 t237 t254 true l1_0 a1_1 a1_2 a1_3 a1_4) else ((laws_eqIntS.f k t254 t237).bind fun t280 => (laws_FnExactPutFirst.j0 k l0 l2 t237 t254 (!t280) l1_0 a1_1 a1_2 a1_3 a1_4)))))) else (some false)))) else (some false)))) else (some false)) = some r := H
          have A24 := Aside0.mk A240
          clear A240
          by_cases c25 : t261 = true
          · subst c25
            have H1 : ((laws_toScan.f k l1_0 a1_1 a1_2 a1_3 a1_4).bind fun bt262 => ((laws_eqScan.f k t243 t246 t247 t248 t249 bt262.1 bt262.2.1 bt262.2.2.1 bt262.2.2.2.1 bt262.2.2.2.2).bind fun t269 => (if t269 = true then ((laws_toIntS.f k l2).bind fun t270 => ((laws_eqIntS.f k t251 t270).bind fun t273 => (if t273 = true then ((laws_markIntS.f k t240 1).bind fun bt274 => ((laws_markScan.f k t243 t246 t247 t248 t249 bt274.1).bind fun bt276 => ((laws_markIntS.f k t251 bt276.1).bind fun bt278 => (if bt278.1 < 0 then (laws_FnExactPutFirst.j0 k l0 l2 t237 t254 true l1_0 a1_1 a1_2 a1_3 a1_4) else ((laws_eqIntS.f k t254 t237).bind fun t280 => (laws_FnExactPutFirst.j0 k l0 l2 t237 t254 (!t280) l1_0 a1_1 a1_2 a1_3 a1_4)))))) else (some false)))) else (some false)))) = some r := by rw [if_pos rfl] at H; exact H
            clear H
            have H := H1
            clear H1
            replace H := Option.bind_eq_some_iff.mp H
            obtain ⟨⟨t262, t265, t266, t267, t268⟩, A260, H⟩ := H
            replace H : ((laws_eqScan.f k t243 t246 t247 t248 t249 t262 t265 t266 t267 t268).bind fun t269 => (if t269 = true then ((laws_toIntS.f k l2).bind fun t270 => ((laws_eqIntS.f k t251 t270).bind fun t273 => (if t273 = true then ((laws_markIntS.f k t240 1).bind fun bt274 => ((laws_markScan.f k t243 t246 t247 t248 t249 bt274.1).bind fun bt276 => ((laws_markIntS.f k t251 bt276.1).bind fun bt278 => (if bt278.1 < 0 then (laws_FnExactPutFirst.j0 k l0 l2 t237 t254 true l1_0 a1_1 a1_2 a1_3 a1_4) else ((laws_eqIntS.f k t254 t237).bind fun t280 => (laws_FnExactPutFirst.j0 k l0 l2 t237 t254 (!t280) l1_0 a1_1 a1_2 a1_3 a1_4)))))) else (some false)))) else (some false))) = some r := H
            have A26 := Aside0.mk A260
            clear A260
            replace H := Option.bind_eq_some_iff.mp H
            obtain ⟨t269, A270, H⟩ := H
            replace H : (if t269 = true then ((laws_toIntS.f k l2).bind fun t270 => ((laws_eqIntS.f k t251 t270).bind fun t273 => (if t273 = true then ((laws_markIntS.f k t240 1).bind fun bt274 => ((laws_markScan.f k t243 t246 t247 t248 t249 bt274.1).bind fun bt276 => ((laws_markIntS.f k t251 bt276.1).bind fun bt278 => (if bt278.1 < 0 then (laws_FnExactPutFirst.j0 k l0 l2 t237 t254 true l1_0 a1_1 a1_2 a1_3 a1_4) else ((laws_eqIntS.f k t254 t237).bind fun t280 => (laws_FnExactPutFirst.j0 k l0 l2 t237 t254 (!t280) l1_0 a1_1 a1_2 a1_3 a1_4)))))) else (some false)))) else (some false)) = some r := H
            have A27 := Aside0.mk A270
            clear A270
            by_cases c28 : t269 = true
            · subst c28
              have H1 : ((laws_toIntS.f k l2).bind fun t270 => ((laws_eqIntS.f k t251 t270).bind fun t273 => (if t273 = true then ((laws_markIntS.f k t240 1).bind fun bt274 => ((laws_markScan.f k t243 t246 t247 t248 t249 bt274.1).bind fun bt276 => ((laws_markIntS.f k t251 bt276.1).bind fun bt278 => (if bt278.1 < 0 then (laws_FnExactPutFirst.j0 k l0 l2 t237 t254 true l1_0 a1_1 a1_2 a1_3 a1_4) else ((laws_eqIntS.f k t254 t237).bind fun t280 => (laws_FnExactPutFirst.j0 k l0 l2 t237 t254 (!t280) l1_0 a1_1 a1_2 a1_3 a1_4)))))) else (some false)))) = some r := by rw [if_pos rfl] at H; exact H
              clear H
              have H := H1
              clear H1
              replace H := Option.bind_eq_some_iff.mp H
              obtain ⟨t270, A290, H⟩ := H
              replace H : ((laws_eqIntS.f k t251 t270).bind fun t273 => (if t273 = true then ((laws_markIntS.f k t240 1).bind fun bt274 => ((laws_markScan.f k t243 t246 t247 t248 t249 bt274.1).bind fun bt276 => ((laws_markIntS.f k t251 bt276.1).bind fun bt278 => (if bt278.1 < 0 then (laws_FnExactPutFirst.j0 k l0 l2 t237 t254 true l1_0 a1_1 a1_2 a1_3 a1_4) else ((laws_eqIntS.f k t254 t237).bind fun t280 => (laws_FnExactPutFirst.j0 k l0 l2 t237 t254 (!t280) l1_0 a1_1 a1_2 a1_3 a1_4)))))) else (some false))) = some r := H
              have A29 := Aside0.mk A290
              clear A290
              replace H := Option.bind_eq_some_iff.mp H
              obtain ⟨t273, A300, H⟩ := H
              replace H : (if t273 = true then ((laws_markIntS.f k t240 1).bind fun bt274 => ((laws_markScan.f k t243 t246 t247 t248 t249 bt274.1).bind fun bt276 => ((laws_markIntS.f k t251 bt276.1).bind fun bt278 => (if bt278.1 < 0 then (laws_FnExactPutFirst.j0 k l0 l2 t237 t254 true l1_0 a1_1 a1_2 a1_3 a1_4) else ((laws_eqIntS.f k t254 t237).bind fun t280 => (laws_FnExactPutFirst.j0 k l0 l2 t237 t254 (!t280) l1_0 a1_1 a1_2 a1_3 a1_4)))))) else (some false)) = some r := H
              have A30 := Aside0.mk A300
              clear A300
              by_cases c31 : t273 = true
              · subst c31
                have H1 : ((laws_markIntS.f k t240 1).bind fun bt274 => ((laws_markScan.f k t243 t246 t247 t248 t249 bt274.1).bind fun bt276 => ((laws_markIntS.f k t251 bt276.1).bind fun bt278 => (if bt278.1 < 0 then (laws_FnExactPutFirst.j0 k l0 l2 t237 t254 true l1_0 a1_1 a1_2 a1_3 a1_4) else ((laws_eqIntS.f k t254 t237).bind fun t280 => (laws_FnExactPutFirst.j0 k l0 l2 t237 t254 (!t280) l1_0 a1_1 a1_2 a1_3 a1_4)))))) = some r := by rw [if_pos rfl] at H; exact H
                clear H
                have H := H1
                clear H1
                replace H := Option.bind_eq_some_iff.mp H
                obtain ⟨⟨t274, t275⟩, A320, H⟩ := H
                replace H : ((laws_markScan.f k t243 t246 t247 t248 t249 t274).bind fun bt276 => ((laws_markIntS.f k t251 bt276.1).bind fun bt278 => (if bt278.1 < 0 then (laws_FnExactPutFirst.j0 k l0 l2 t237 t254 true l1_0 a1_1 a1_2 a1_3 a1_4) else ((laws_eqIntS.f k t254 t237).bind fun t280 => (laws_FnExactPutFirst.j0 k l0 l2 t237 t254 (!t280) l1_0 a1_1 a1_2 a1_3 a1_4))))) = some r := H
                have A32 := Aside0.mk A320
                clear A320
                replace H := Option.bind_eq_some_iff.mp H
                obtain ⟨⟨t276, t277⟩, A330, H⟩ := H
                replace H : ((laws_markIntS.f k t251 t276).bind fun bt278 => (if bt278.1 < 0 then (laws_FnExactPutFirst.j0 k l0 l2 t237 t254 true l1_0 a1_1 a1_2 a1_3 a1_4) else ((laws_eqIntS.f k t254 t237).bind fun t280 => (laws_FnExactPutFirst.j0 k l0 l2 t237 t254 (!t280) l1_0 a1_1 a1_2 a1_3 a1_4)))) = some r := H
                have A33 := Aside0.mk A330
                clear A330
                replace H := Option.bind_eq_some_iff.mp H
                obtain ⟨⟨t278, t279⟩, A340, H⟩ := H
                replace H : (if t278 < 0 then (laws_FnExactPutFirst.j0 k l0 l2 t237 t254 true l1_0 a1_1 a1_2 a1_3 a1_4) else ((laws_eqIntS.f k t254 t237).bind fun t280 => (laws_FnExactPutFirst.j0 k l0 l2 t237 t254 (!t280) l1_0 a1_1 a1_2 a1_3 a1_4))) = some r := H
                have A34 := Aside0.mk A340
                clear A340
                have HC35 := Aside0.mk H
                clear H
                go_enter Try.func4, Try.ntmps4
                try go_wp2_with (first | ((with_reducible refine gate_dst (N := 4) rfl ?_); refine box_event ?hg (N := 4) ?hd (cs := #[.slice A1_0 l1_0.length c1_0, .int .i64 a1_1, .int .i64 a1_2, .int .i64 a1_3, .int .i64 a1_4]) (t := 24) ?hr ?_; (case hd => rfl); (case hg => rfl); (case hr => first | (go_simp; done) | (go_simp; rfl)); intro gb222 hg w36 hbox hb; have n0_ := Aside0.mk (below_step (by repeat (first | (with_reducible first | exact HB.out | apply below_alloc | apply pw_below_drewN | apply below_drew1) | exact HB.out)) hb); have n1_ := Aside0.mk (hbox); have n2_ := Aside0.mk ((by rw [hg]; exact (below_size (by repeat (first | (with_reducible first | exact HB.out | apply below_alloc | apply pw_below_drewN | apply below_drew1) | exact HB.out))) : w.heap.size ≤ gb222)); have n3_ := Aside0.mk ((by rw [hg]; exact (below_size (by repeat (first | (with_reducible first | exact HB.out | apply below_alloc | apply pw_below_drewN | apply below_drew1) | exact HB.out))) : w.heap.size ≤ gb222)); clear HB; have HB := n0_; have BK222 := n1_; have GW222 := n2_; have GE222 := n3_; clear n0_ n1_ n2_ n3_; clear hb hbox hg; have hcz37_0 : w36.cell? ⟨gb222, 0, none⟩ = some (.slice A1_0 l1_0.length c1_0) := (blk_cell BK222.out 0).trans rfl; have hcz37_1 : w36.cell? ⟨gb222, 1, none⟩ = some (.int .i64 a1_1) := (blk_cell BK222.out 1).trans rfl; have hcz37_2 : w36.cell? ⟨gb222, 2, none⟩ = some (.int .i64 a1_2) := (blk_cell BK222.out 2).trans rfl; have hcz37_3 : w36.cell? ⟨gb222, 3, none⟩ = some (.int .i64 a1_3) := (blk_cell BK222.out 3).trans rfl; have hcz37_4 : w36.cell? ⟨gb222, 4, none⟩ = some (.int .i64 a1_4) := (blk_cell BK222.out 4).trans rfl; have hfz37_0 := blk_frozen BK222.out 0; have hfz37_1 := blk_frozen BK222.out 1; have hfz37_2 := blk_frozen BK222.out 2; have hfz37_3 := blk_frozen BK222.out 3; have hfz37_4 := blk_frozen BK222.out 4) | ((with_reducible refine gate_callee (f := 15) rfl ?_); refine goesL_ (some 25) rfl rfl Try.func15 (by kernel_rfl) rfl #[.agg #[.slice A1_0 l1_0.length c1_0, .int .i64 a1_1, .int .i64 a1_2, .int .i64 a1_3, .int .i64 a1_4], .int .i64 1048576] rfl (by (try simp only [List.map_toArray, List.map_cons, List.map_nil]); first | done | rfl | (simp only [List.length_drop, List.length_take]; rfl)) ?_; (with_reducible refine (laws_szScan.calls _ _ l1_0 a1_1 a1_2 a1_3 a1_4 1048576 t223 _ ?side1 ?side2 A8.out).mono ?_); (case side1 => repeat (first | exact (Kd.C_below HR1_0.out HB.out) | (with_reducible refine Kd.C_alloc ?_ _) | (with_reducible refine Kd.C_drewN ?_ _) | (with_reducible refine Kd.C_drew ?_))); (case side2 => exact HC1_0.out); rintro e w38 ⟨rfl, hb⟩; refine ⟨_, rfl, ?_⟩; have n0_ := Aside0.mk (blk_below (g := gb222) (o := .cells #[.slice A1_0 l1_0.length c1_0, .int .i64 a1_1, .int .i64 a1_2, .int .i64 a1_3, .int .i64 a1_4] 24 (0, 0)) (by (with_reducible repeat (first | refine blk_drewN ?_ _ | refine blk_drew ?_ | refine blk_alloc ?_ _)); exact BK222.out) hb); have n1_ := Aside0.mk (below_step (by repeat (first | (with_reducible first | exact HB.out | apply below_alloc | apply pw_below_drewN | apply below_drew1 | refine below_set ?_ GE222.out) | exact HB.out)) hb); clear BK222; clear HB; have BK222 := n0_; have HB := n1_; clear n0_ n1_; (try clear hb); (try clear hb2); (try clear hk); (try clear hi)))
                have n0_ := Aside0.mk (blk_drew BK222.out)
                have n1_ := Aside0.mk (below_drew1 HB.out)
                clear BK222
                clear HB
                have BK222 := n0_
                have HB := n1_
                clear n0_ n1_
                refine start_ (n := 8) (S := fun w' => w'.cell? ⟨gb222, 0, none⟩ = some (.slice A1_0 l1_0.length c1_0) ∧ w'.cell? ⟨gb222, 1, none⟩ = some (.int .i64 a1_1) ∧ w'.cell? ⟨gb222, 2, none⟩ = some (.int .i64 a1_2) ∧ w'.cell? ⟨gb222, 3, none⟩ = some (.int .i64 a1_3) ∧ w'.cell? ⟨gb222, 4, none⟩ = some (.int .i64 a1_4)) (ds := []) #[false, false, false, false, false, false, false, false] (by kernel_rfl) rfl rfl ⟨(blk_cell BK222.out 0).trans rfl, (blk_cell BK222.out 1).trans rfl, (blk_cell BK222.out 2).trans rfl, (blk_cell BK222.out 3).trans rfl, (blk_cell BK222.out 4).trans rfl⟩ (fun hHeld => ?_); refine with_tabW laws_FnExactPutFirst.tab9 laws_FnExactPutFirst.bits9 (fun HT_ HW_ => ?_)
                generalize w38.drew = w39 at BK222 HB hHeld ⊢
                refine pure_ (i := 0) (N := some 28) (v := ?_) (a' := ?_) #[true, false, false, false, false, false, false, false] rfl rfl (any_of HT_.out (by kernel_rfl)) (fun _ _ _ h => h) (Or.inl ⟨by rfl, ?_⟩) ?_ ?_
                rotate_left
                · intro w'
                  go_simp
                  with_reducible rfl
                rotate_left
                · simp only [Act.put, List.setIfInBounds_toArray, List.set_cons_zero, List.set_cons_succ, i64_w, i32_w]
                  rfl
                refine pure_ (i := 4) (N := some 32) (v := ?_) (a' := ?_) #[true, false, false, false, true, false, false, false] rfl rfl (any_of HT_.out (by kernel_rfl)) (fun _ _ _ h => h) (Or.inl ⟨by rfl, ?_⟩) ?_ ?_
                rotate_left
                · intro w'
                  go_simp
                  with_reducible rfl
                rotate_left
                · simp only [Act.put, List.setIfInBounds_toArray, List.set_cons_zero, List.set_cons_succ, i64_w, i32_w]
                  rfl
                refine take_ (i := 2) (N := some 30) (v := ?_) (a' := ?_) #[true, false, true, false, true, false, false, false] rfl rfl (take_ofW HT_.out HW_.out (by kernel_rfl)) (fun _ _ _ h => h) (Or.inl ⟨by rfl, ?_⟩) hHeld ?_ ?_
                rotate_left
                · rintro w' ⟨s0, s1, s2, s3, s4⟩
                  go_simp
                  with_reducible rfl
                rotate_left
                · simp only [Act.put, List.setIfInBounds_toArray, List.set_cons_zero, List.set_cons_succ, i64_w, i32_w]
                  rfl
                refine one_ (i := 1) (N := some 29) #[true, true, true, false, true, false, false, false] rfl rfl (one_of HT_.out (by kernel_rfl)) (by decide) (fun K hK => ?_)
                refine goes_ Try.func17 (by kernel_rfl) rfl #[.slice A0 l0.length c0] (by rfl) rfl rfl (by (try simp only [List.map_toArray, List.map_cons, List.map_nil]); first | done | rfl | (simp only [List.length_drop, List.length_take]; rfl)) ?_
                with_reducible refine (laws_toIntS.calls k _ _ l0 t224 _ ?side1 ?side2 A13.out).mono ?_
                (case side1 => repeat (first | exact (Kd.C_below HR0.out HB.out) | (with_reducible refine Kd.C_alloc ?_ _) | (with_reducible refine Kd.C_drewN ?_ _) | (with_reducible refine Kd.C_drew ?_)))
                (case side2 => exact HC0.out)
                rintro e w40 ⟨v225, rfl, ho0, hb⟩
                refine ⟨_, rfl, ?_⟩
                have n0_ := Aside0.mk (Kd.R_lower ho0 (below_size (by repeat (first | (with_reducible first | exact HB.out | apply below_alloc | apply pw_below_drewN | apply below_drew1 | refine below_set ?_ GE222.out) | exact HB.out))))
                have n1_ := Aside0.mk (blk_below (g := gb222) (o := .cells #[.slice A1_0 l1_0.length c1_0, .int .i64 a1_1, .int .i64 a1_2, .int .i64 a1_3, .int .i64 a1_4] 24 (0, 0)) (by (with_reducible repeat (first | refine blk_drewN ?_ _ | refine blk_drew ?_ | refine blk_alloc ?_ _)); exact BK222.out) hb)
                have n2_ := Aside0.mk (below_step (by repeat (first | (with_reducible first | exact HB.out | apply below_alloc | apply pw_below_drewN | apply below_drew1 | refine below_set ?_ GE222.out) | exact HB.out)) hb)
                clear BK222
                clear HB
                have HO226 := n0_
                have BK222 := n1_
                have HB := n2_
                clear n0_ n1_ n2_
                (try clear hb)
                (try clear hb2)
                (try clear hk)
                (try clear hi)
                (try clear ho0)
                refine hK.out _ _ ⟨(blk_cell BK222.out 0).trans rfl, (blk_cell BK222.out 1).trans rfl, (blk_cell BK222.out 2).trans rfl, (blk_cell BK222.out 3).trans rfl, (blk_cell BK222.out 4).trans rfl⟩ (fun hHeld => ?_)
                clear hK K
                refine norm_ (a' := ?_) ?_ ?_
                rotate_left
                · show Act.put _ (some 29) _ = _
                  simp only [Act.put, List.setIfInBounds_toArray, List.set_cons_zero, List.set_cons_succ, i64_w, i32_w]
                  rfl
                refine one_ (i := 3) (N := some 31) #[true, true, true, true, true, false, false, false] rfl rfl (one_of HT_.out (by kernel_rfl)) (by decide) (fun K hK => ?_)
                refine goes_ Try.func18 (by kernel_rfl) rfl #[.agg #[.slice A1_0 l1_0.length c1_0, .int .i64 a1_1, .int .i64 a1_2, .int .i64 a1_3, .int .i64 a1_4]] (by rfl) rfl rfl (by (try simp only [List.map_toArray, List.map_cons, List.map_nil]); first | done | rfl | (simp only [List.length_drop, List.length_take]; rfl)) ?_
                with_reducible refine (laws_toScan.calls k _ _ l1_0 a1_1 a1_2 a1_3 a1_4 t227 t230 t231 t232 t233 _ ?side1 ?side2 A14.out).mono ?_
                (case side1 => repeat (first | exact (Kd.C_below HR1_0.out HB.out) | (with_reducible refine Kd.C_alloc ?_ _) | (with_reducible refine Kd.C_drewN ?_ _) | (with_reducible refine Kd.C_drew ?_)))
                (case side2 => exact HC1_0.out)
                rintro e w41 ⟨v228, rfl, ho0, hb⟩
                refine ⟨_, rfl, ?_⟩
                have n0_ := Aside0.mk (Kd.R_elder' (by (with_reducible repeat (first | apply Kd.R_alloc | apply Kd.R_drewN | apply Kd.R_drew)); exact HO226.out) (Kd.R_base ho0) hb)
                have n1_ := Aside0.mk (Kd.R_lower (Kd.R_new' ho0 (Kd.R_lt (by (with_reducible repeat (first | apply Kd.R_alloc | apply Kd.R_drewN | apply Kd.R_drew)); exact HO226.out))) (below_size (by repeat (first | (with_reducible first | exact HB.out | apply below_alloc | apply pw_below_drewN | apply below_drew1 | refine below_set ?_ GE222.out) | exact HB.out))))
                have n2_ := Aside0.mk (blk_below (g := gb222) (o := .cells #[.slice A1_0 l1_0.length c1_0, .int .i64 a1_1, .int .i64 a1_2, .int .i64 a1_3, .int .i64 a1_4] 24 (0, 0)) (by (with_reducible repeat (first | refine blk_drewN ?_ _ | refine blk_drew ?_ | refine blk_alloc ?_ _)); exact BK222.out) hb)
                have n3_ := Aside0.mk (below_step (by repeat (first | (with_reducible first | exact HB.out | apply below_alloc | apply pw_below_drewN | apply below_drew1 | refine below_set ?_ GE222.out) | exact HB.out)) hb)
                clear HO226
                clear BK222
                clear HB
                have HO226 := n0_
                have HO229 := n1_
                have BK222 := n2_
                have HB := n3_
                clear n0_ n1_ n2_ n3_
                (try clear hb)
                (try clear hb2)
                (try clear hk)
                (try clear hi)
                (try clear ho0)
                refine hK.out _ _ ⟨(blk_cell BK222.out 0).trans rfl, (blk_cell BK222.out 1).trans rfl, (blk_cell BK222.out 2).trans rfl, (blk_cell BK222.out 3).trans rfl, (blk_cell BK222.out 4).trans rfl⟩ (fun hHeld => ?_)
                clear hK K
                refine norm_ (a' := ?_) ?_ ?_
                rotate_left
                · show Act.put _ (some 31) _ = _
                  simp only [Act.put, List.setIfInBounds_toArray, List.set_cons_zero, List.set_cons_succ, i64_w, i32_w]
                  rfl
                refine one_ (i := 5) (N := some 33) #[true, true, true, true, true, true, false, false] rfl rfl (one_of HT_.out (by kernel_rfl)) (by decide) (fun K hK => ?_)
                refine goes_ Try.func17 (by kernel_rfl) rfl #[.slice A2 l2.length c2] (by rfl) rfl rfl (by (try simp only [List.map_toArray, List.map_cons, List.map_nil]); first | done | rfl | (simp only [List.length_drop, List.length_take]; rfl)) ?_
                with_reducible refine (laws_toIntS.calls k _ _ l2 t234 _ ?side1 ?side2 A15.out).mono ?_
                (case side1 => repeat (first | exact (Kd.C_below HR2.out HB.out) | (with_reducible refine Kd.C_alloc ?_ _) | (with_reducible refine Kd.C_drewN ?_ _) | (with_reducible refine Kd.C_drew ?_)))
                (case side2 => exact HC2.out)
                rintro e w42 ⟨v235, rfl, ho0, hb⟩
                refine ⟨_, rfl, ?_⟩
                have n0_ := Aside0.mk (Kd.R_elder' (by (with_reducible repeat (first | apply Kd.R_alloc | apply Kd.R_drewN | apply Kd.R_drew)); exact HO226.out) (Kd.R_base ho0) hb)
                have n1_ := Aside0.mk (Kd.R_elder' (by (with_reducible repeat (first | apply Kd.R_alloc | apply Kd.R_drewN | apply Kd.R_drew)); exact HO229.out) (Kd.R_base ho0) hb)
                have n2_ := Aside0.mk (Kd.R_lower (Kd.R_new' (Kd.R_new' ho0 (Kd.R_lt (by (with_reducible repeat (first | apply Kd.R_alloc | apply Kd.R_drewN | apply Kd.R_drew)); exact HO226.out))) (Kd.R_lt (by (with_reducible repeat (first | apply Kd.R_alloc | apply Kd.R_drewN | apply Kd.R_drew)); exact HO229.out))) (below_size (by repeat (first | (with_reducible first | exact HB.out | apply below_alloc | apply pw_below_drewN | apply below_drew1 | refine below_set ?_ GE222.out) | exact HB.out))))
                have n3_ := Aside0.mk (blk_below (g := gb222) (o := .cells #[.slice A1_0 l1_0.length c1_0, .int .i64 a1_1, .int .i64 a1_2, .int .i64 a1_3, .int .i64 a1_4] 24 (0, 0)) (by (with_reducible repeat (first | refine blk_drewN ?_ _ | refine blk_drew ?_ | refine blk_alloc ?_ _)); exact BK222.out) hb)
                have n4_ := Aside0.mk (below_step (by repeat (first | (with_reducible first | exact HB.out | apply below_alloc | apply pw_below_drewN | apply below_drew1 | refine below_set ?_ GE222.out) | exact HB.out)) hb)
                clear HO226
                clear HO229
                clear BK222
                clear HB
                have HO226 := n0_
                have HO229 := n1_
                have HO236 := n2_
                have BK222 := n3_
                have HB := n4_
                clear n0_ n1_ n2_ n3_ n4_
                (try clear hb)
                (try clear hb2)
                (try clear hk)
                (try clear hi)
                (try clear ho0)
                obtain ⟨Ao43, co43, eo43⟩ := Kd.R_slice HO226.out
                (first | subst eo43 | (injection eo43 with f1_ f2_ f3_; have f4_ := f1_.symm; have f5_ := f3_.symm; clear f1_ f2_ f3_; subst f4_; subst f5_))
                obtain ⟨Ao44, co44, eo44⟩ := Kd.R_slice HO229.out
                (first | subst eo44 | (injection eo44 with f1_ f2_ f3_; have f4_ := f1_.symm; have f5_ := f3_.symm; clear f1_ f2_ f3_; subst f4_; subst f5_))
                obtain ⟨Ao45, co45, eo45⟩ := Kd.R_slice HO236.out
                (first | subst eo45 | (injection eo45 with f1_ f2_ f3_; have f4_ := f1_.symm; have f5_ := f3_.symm; clear f1_ f2_ f3_; subst f4_; subst f5_))
                refine hK.out _ _ ⟨(blk_cell BK222.out 0).trans rfl, (blk_cell BK222.out 1).trans rfl, (blk_cell BK222.out 2).trans rfl, (blk_cell BK222.out 3).trans rfl, (blk_cell BK222.out 4).trans rfl⟩ (fun hHeld => ?_)
                clear hK K
                refine norm_ (a' := ?_) ?_ ?_
                rotate_left
                · show Act.put _ (some 33) _ = _
                  simp only [Act.put, List.setIfInBounds_toArray, List.set_cons_zero, List.set_cons_succ, i64_w, i32_w]
                  rfl
                refine one_ (i := 6) (N := some 34) #[true, true, true, true, true, true, true, false] rfl rfl (one_of HT_.out (by kernel_rfl)) (by decide) (fun K hK => ?_)
                refine goes_ Try.func25 (by kernel_rfl) rfl #[.slice Ao43 t224.length co43, .agg #[.slice Ao44 t227.length co44, .int .i64 t230, .int .i64 t231, .int .i64 t232, .int .i64 t233], .slice Ao45 t234.length co45] (by rfl) rfl rfl (by (try simp only [List.map_toArray, List.map_cons, List.map_nil]); first | done | rfl | (simp only [List.length_drop, List.length_take]; rfl)) ?_
                with_reducible refine (spec_PutFirst.calls k _ _ t224 _ _ t227 t230 t231 t232 t233 _ _ t234 t237 _ ?side1 ?side2 ?side3 ?side4 ?side5 ?side6 A16.out).mono ?_
                (case side1 => repeat (first | exact (Kd.R_reads' HO226.out).2.2 | (with_reducible refine Kd.C_alloc ?_ _) | (with_reducible refine Kd.C_drewN ?_ _) | (with_reducible refine Kd.C_drew ?_)))
                (case side2 => exact (Kd.R_reads' HO226.out).2.1)
                (case side3 => repeat (first | exact (Kd.R_reads' HO229.out).2.2 | (with_reducible refine Kd.C_alloc ?_ _) | (with_reducible refine Kd.C_drewN ?_ _) | (with_reducible refine Kd.C_drew ?_)))
                (case side4 => exact (Kd.R_reads' HO229.out).2.1)
                (case side5 => repeat (first | exact (Kd.R_reads' HO236.out).2.2 | (with_reducible refine Kd.C_alloc ?_ _) | (with_reducible refine Kd.C_drewN ?_ _) | (with_reducible refine Kd.C_drew ?_)))
                (case side6 => exact (Kd.R_reads' HO236.out).2.1)
                rintro e w46 ⟨v238, rfl, ho0, hb⟩
                refine ⟨_, rfl, ?_⟩
                have n0_ := Aside0.mk (Kd.R_elder' (by (with_reducible repeat (first | apply Kd.R_alloc | apply Kd.R_drewN | apply Kd.R_drew)); exact HO226.out) (Kd.R_base ho0) hb)
                have n1_ := Aside0.mk (Kd.R_elder' (by (with_reducible repeat (first | apply Kd.R_alloc | apply Kd.R_drewN | apply Kd.R_drew)); exact HO229.out) (Kd.R_base ho0) hb)
                have n2_ := Aside0.mk (Kd.R_elder' (by (with_reducible repeat (first | apply Kd.R_alloc | apply Kd.R_drewN | apply Kd.R_drew)); exact HO236.out) (Kd.R_base ho0) hb)
                have n3_ := Aside0.mk (Kd.R_lower (Kd.R_new' (Kd.R_new' (Kd.R_new' ho0 (Kd.R_lt (by (with_reducible repeat (first | apply Kd.R_alloc | apply Kd.R_drewN | apply Kd.R_drew)); exact HO226.out))) (Kd.R_lt (by (with_reducible repeat (first | apply Kd.R_alloc | apply Kd.R_drewN | apply Kd.R_drew)); exact HO229.out))) (Kd.R_lt (by (with_reducible repeat (first | apply Kd.R_alloc | apply Kd.R_drewN | apply Kd.R_drew)); exact HO236.out))) (below_size (by repeat (first | (with_reducible first | exact HB.out | apply below_alloc | apply pw_below_drewN | apply below_drew1 | refine below_set ?_ GE222.out) | exact HB.out))))
                have n4_ := Aside0.mk (blk_below (g := gb222) (o := .cells #[.slice A1_0 l1_0.length c1_0, .int .i64 a1_1, .int .i64 a1_2, .int .i64 a1_3, .int .i64 a1_4] 24 (0, 0)) (by (with_reducible repeat (first | refine blk_drewN ?_ _ | refine blk_drew ?_ | refine blk_alloc ?_ _)); exact BK222.out) hb)
                have n5_ := Aside0.mk (below_step (by repeat (first | (with_reducible first | exact HB.out | apply below_alloc | apply pw_below_drewN | apply below_drew1 | refine below_set ?_ GE222.out) | exact HB.out)) hb)
                clear HO226
                clear HO229
                clear HO236
                clear BK222
                clear HB
                have HO226 := n0_
                have HO229 := n1_
                have HO236 := n2_
                have HO239 := n3_
                have BK222 := n4_
                have HB := n5_
                clear n0_ n1_ n2_ n3_ n4_ n5_
                (try clear hb)
                (try clear hb2)
                (try clear hk)
                (try clear hi)
                (try clear ho0)
                refine hK.out _ _ ⟨(blk_cell BK222.out 0).trans rfl, (blk_cell BK222.out 1).trans rfl, (blk_cell BK222.out 2).trans rfl, (blk_cell BK222.out 3).trans rfl, (blk_cell BK222.out 4).trans rfl⟩ (fun hHeld => ?_)
                clear hK K
                refine norm_ (a' := ?_) ?_ ?_
                rotate_left
                · show Act.put _ (some 34) _ = _
                  simp only [Act.put, List.setIfInBounds_toArray, List.set_cons_zero, List.set_cons_succ, i64_w, i32_w]
                  rfl
                refine pure_ (i := 7) (N := some 8) (v := ?_) (a' := ?_) #[true, true, true, true, true, true, true, true] rfl rfl (any_of HT_.out (by kernel_rfl)) (fun _ _ _ h => h) (Or.inl ⟨by rfl, ?_⟩) ?_ ?_
                rotate_left
                · intro w'
                  go_simp
                  with_reducible rfl
                rotate_left
                · simp only [Act.put, List.setIfInBounds_toArray, List.set_cons_zero, List.set_cons_succ, i64_w, i32_w]
                  rfl
                refine done_ (done_of HT_.out (by kernel_rfl)) ?_
                try go_wp2_with (first | ((with_reducible refine gate_callee (f := 17) rfl ?_); refine goesL_ (some 36) rfl rfl Try.func17 (by kernel_rfl) rfl #[.slice A0 l0.length c0] rfl (by (try simp only [List.map_toArray, List.map_cons, List.map_nil]); first | done | rfl | (simp only [List.length_drop, List.length_take]; rfl)) ?_; (with_reducible refine (laws_toIntS.calls k _ _ l0 t240 _ ?side1 ?side2 A17.out).mono ?_); (case side1 => repeat (first | exact (Kd.C_below HR0.out HB.out) | (with_reducible refine Kd.C_alloc ?_ _) | (with_reducible refine Kd.C_drewN ?_ _) | (with_reducible refine Kd.C_drew ?_))); (case side2 => exact HC0.out); rintro e w47 ⟨v241, rfl, ho0, hb⟩; refine ⟨_, rfl, ?_⟩; have n0_ := Aside0.mk (Kd.R_elder' (by (with_reducible repeat (first | apply Kd.R_alloc | apply Kd.R_drewN | apply Kd.R_drew)); exact HO226.out) (Kd.R_base ho0) hb); have n1_ := Aside0.mk (Kd.R_elder' (by (with_reducible repeat (first | apply Kd.R_alloc | apply Kd.R_drewN | apply Kd.R_drew)); exact HO229.out) (Kd.R_base ho0) hb); have n2_ := Aside0.mk (Kd.R_elder' (by (with_reducible repeat (first | apply Kd.R_alloc | apply Kd.R_drewN | apply Kd.R_drew)); exact HO236.out) (Kd.R_base ho0) hb); have n3_ := Aside0.mk (Kd.R_elder' (by (with_reducible repeat (first | apply Kd.R_alloc | apply Kd.R_drewN | apply Kd.R_drew)); exact HO239.out) (Kd.R_base ho0) hb); have n4_ := Aside0.mk (Kd.R_lower (Kd.R_new' (Kd.R_new' (Kd.R_new' (Kd.R_new' ho0 (Kd.R_lt (by (with_reducible repeat (first | apply Kd.R_alloc | apply Kd.R_drewN | apply Kd.R_drew)); exact HO226.out))) (Kd.R_lt (by (with_reducible repeat (first | apply Kd.R_alloc | apply Kd.R_drewN | apply Kd.R_drew)); exact HO229.out))) (Kd.R_lt (by (with_reducible repeat (first | apply Kd.R_alloc | apply Kd.R_drewN | apply Kd.R_drew)); exact HO236.out))) (Kd.R_lt (by (with_reducible repeat (first | apply Kd.R_alloc | apply Kd.R_drewN | apply Kd.R_drew)); exact HO239.out))) (below_size (by repeat (first | (with_reducible first | exact HB.out | apply below_alloc | apply pw_below_drewN | apply below_drew1 | refine below_set ?_ GE222.out) | exact HB.out)))); have n5_ := Aside0.mk (blk_below (g := gb222) (o := .cells #[.slice A1_0 l1_0.length c1_0, .int .i64 a1_1, .int .i64 a1_2, .int .i64 a1_3, .int .i64 a1_4] 24 (0, 0)) (by (with_reducible repeat (first | refine blk_drewN ?_ _ | refine blk_drew ?_ | refine blk_alloc ?_ _)); exact BK222.out) hb); have n6_ := Aside0.mk (below_step (by repeat (first | (with_reducible first | exact HB.out | apply below_alloc | apply pw_below_drewN | apply below_drew1 | refine below_set ?_ GE222.out) | exact HB.out)) hb); clear HO226; clear HO229; clear HO236; clear HO239; clear BK222; clear HB; have HO226 := n0_; have HO229 := n1_; have HO236 := n2_; have HO239 := n3_; have HO242 := n4_; have BK222 := n5_; have HB := n6_; clear n0_ n1_ n2_ n3_ n4_ n5_ n6_; (try clear hb); (try clear hb2); (try clear hk); (try clear hi); (try clear ho0); have hcz48_0 : w47.cell? ⟨gb222, 0, none⟩ = some (.slice A1_0 l1_0.length c1_0) := (blk_cell BK222.out 0).trans rfl; have hcz48_1 : w47.cell? ⟨gb222, 1, none⟩ = some (.int .i64 a1_1) := (blk_cell BK222.out 1).trans rfl; have hcz48_2 : w47.cell? ⟨gb222, 2, none⟩ = some (.int .i64 a1_2) := (blk_cell BK222.out 2).trans rfl; have hcz48_3 : w47.cell? ⟨gb222, 3, none⟩ = some (.int .i64 a1_3) := (blk_cell BK222.out 3).trans rfl; have hcz48_4 : w47.cell? ⟨gb222, 4, none⟩ = some (.int .i64 a1_4) := (blk_cell BK222.out 4).trans rfl; have hfz48_0 := blk_frozen BK222.out 0; have hfz48_1 := blk_frozen BK222.out 1; have hfz48_2 := blk_frozen BK222.out 2; have hfz48_3 := blk_frozen BK222.out 3; have hfz48_4 := blk_frozen BK222.out 4) | ((with_reducible refine gate_callee (f := 18) rfl ?_); refine goesL_ (some 38) rfl rfl Try.func18 (by kernel_rfl) rfl #[.agg #[.slice A1_0 l1_0.length c1_0, .int .i64 a1_1, .int .i64 a1_2, .int .i64 a1_3, .int .i64 a1_4]] rfl (by (try simp only [List.map_toArray, List.map_cons, List.map_nil]); first | done | rfl | (simp only [List.length_drop, List.length_take]; rfl)) ?_; (with_reducible refine (laws_toScan.calls k _ _ l1_0 a1_1 a1_2 a1_3 a1_4 t243 t246 t247 t248 t249 _ ?side1 ?side2 A18.out).mono ?_); (case side1 => repeat (first | exact (Kd.C_below HR1_0.out HB.out) | (with_reducible refine Kd.C_alloc ?_ _) | (with_reducible refine Kd.C_drewN ?_ _) | (with_reducible refine Kd.C_drew ?_))); (case side2 => exact HC1_0.out); rintro e w49 ⟨v244, rfl, ho0, hb⟩; refine ⟨_, rfl, ?_⟩; have n0_ := Aside0.mk (Kd.R_elder' (by (with_reducible repeat (first | apply Kd.R_alloc | apply Kd.R_drewN | apply Kd.R_drew)); exact HO226.out) (Kd.R_base ho0) hb); have n1_ := Aside0.mk (Kd.R_elder' (by (with_reducible repeat (first | apply Kd.R_alloc | apply Kd.R_drewN | apply Kd.R_drew)); exact HO229.out) (Kd.R_base ho0) hb); have n2_ := Aside0.mk (Kd.R_elder' (by (with_reducible repeat (first | apply Kd.R_alloc | apply Kd.R_drewN | apply Kd.R_drew)); exact HO236.out) (Kd.R_base ho0) hb); have n3_ := Aside0.mk (Kd.R_elder' (by (with_reducible repeat (first | apply Kd.R_alloc | apply Kd.R_drewN | apply Kd.R_drew)); exact HO239.out) (Kd.R_base ho0) hb); have n4_ := Aside0.mk (Kd.R_elder' (by (with_reducible repeat (first | apply Kd.R_alloc | apply Kd.R_drewN | apply Kd.R_drew)); exact HO242.out) (Kd.R_base ho0) hb); have n5_ := Aside0.mk (Kd.R_lower (Kd.R_new' (Kd.R_new' (Kd.R_new' (Kd.R_new' (Kd.R_new' ho0 (Kd.R_lt (by (with_reducible repeat (first | apply Kd.R_alloc | apply Kd.R_drewN | apply Kd.R_drew)); exact HO226.out))) (Kd.R_lt (by (with_reducible repeat (first | apply Kd.R_alloc | apply Kd.R_drewN | apply Kd.R_drew)); exact HO229.out))) (Kd.R_lt (by (with_reducible repeat (first | apply Kd.R_alloc | apply Kd.R_drewN | apply Kd.R_drew)); exact HO236.out))) (Kd.R_lt (by (with_reducible repeat (first | apply Kd.R_alloc | apply Kd.R_drewN | apply Kd.R_drew)); exact HO239.out))) (Kd.R_lt (by (with_reducible repeat (first | apply Kd.R_alloc | apply Kd.R_drewN | apply Kd.R_drew)); exact HO242.out))) (below_size (by repeat (first | (with_reducible first | exact HB.out | apply below_alloc | apply pw_below_drewN | apply below_drew1 | refine below_set ?_ GE222.out) | exact HB.out)))); have n6_ := Aside0.mk (blk_below (g := gb222) (o := .cells #[.slice A1_0 l1_0.length c1_0, .int .i64 a1_1, .int .i64 a1_2, .int .i64 a1_3, .int .i64 a1_4] 24 (0, 0)) (by (with_reducible repeat (first | refine blk_drewN ?_ _ | refine blk_drew ?_ | refine blk_alloc ?_ _)); exact BK222.out) hb); have n7_ := Aside0.mk (below_step (by repeat (first | (with_reducible first | exact HB.out | apply below_alloc | apply pw_below_drewN | apply below_drew1 | refine below_set ?_ GE222.out) | exact HB.out)) hb); clear HO226; clear HO229; clear HO236; clear HO239; clear HO242; clear BK222; clear HB; have HO226 := n0_; have HO229 := n1_; have HO236 := n2_; have HO239 := n3_; have HO242 := n4_; have HO245 := n5_; have BK222 := n6_; have HB := n7_; clear n0_ n1_ n2_ n3_ n4_ n5_ n6_ n7_; (try clear hb); (try clear hb2); (try clear hk); (try clear hi); (try clear ho0)) | ((with_reducible refine gate_dst (N := 10) rfl ?_); refine box_event ?hg (N := 10) ?hd (cs := #[.slice none 0 0, .int .i64 0, .int .i64 0, .int .i64 0, .int .i64 0]) (t := 28) ?hr ?_; (case hd => rfl); (case hg => rfl); (case hr => first | (go_simp; done) | (go_simp; rfl)); intro gb250 hg w50 hbox hb; have n0_ := Aside0.mk (Kd.R_below (by (with_reducible repeat (first | apply Kd.R_alloc | apply Kd.R_drewN | apply Kd.R_drew)); exact HO226.out) hb); have n1_ := Aside0.mk (Kd.R_below (by (with_reducible repeat (first | apply Kd.R_alloc | apply Kd.R_drewN | apply Kd.R_drew)); exact HO229.out) hb); have n2_ := Aside0.mk (Kd.R_below (by (with_reducible repeat (first | apply Kd.R_alloc | apply Kd.R_drewN | apply Kd.R_drew)); exact HO236.out) hb); have n3_ := Aside0.mk (Kd.R_below (by (with_reducible repeat (first | apply Kd.R_alloc | apply Kd.R_drewN | apply Kd.R_drew)); exact HO239.out) hb); have n4_ := Aside0.mk (Kd.R_below (by (with_reducible repeat (first | apply Kd.R_alloc | apply Kd.R_drewN | apply Kd.R_drew)); exact HO242.out) hb); have n5_ := Aside0.mk (Kd.R_below (by (with_reducible repeat (first | apply Kd.R_alloc | apply Kd.R_drewN | apply Kd.R_drew)); exact HO245.out) hb); have n6_ := Aside0.mk (blk_below (g := gb222) (o := .cells #[.slice A1_0 l1_0.length c1_0, .int .i64 a1_1, .int .i64 a1_2, .int .i64 a1_3, .int .i64 a1_4] 24 (0, 0)) (by (with_reducible repeat (first | refine blk_drewN ?_ _ | refine blk_drew ?_ | refine blk_alloc ?_ _)); exact BK222.out) hb); have n7_ := Aside0.mk (below_step (by repeat (first | (with_reducible first | exact HB.out | apply below_alloc | apply pw_below_drewN | apply below_drew1 | refine below_set ?_ GE222.out) | exact HB.out)) hb); have n8_ := Aside0.mk (hbox); have n9_ := Aside0.mk ((by rw [hg]; exact (below_size (by repeat (first | (with_reducible first | exact HB.out | apply below_alloc | apply pw_below_drewN | apply below_drew1 | refine below_set ?_ GE222.out) | exact HB.out))) : w.heap.size ≤ gb250)); have n10_ := Aside0.mk ((by rw [hg]; exact (below_size (by repeat (first | (with_reducible first | exact HB.out | apply below_alloc | apply pw_below_drewN | apply below_drew1 | refine below_set ?_ GE222.out) | exact HB.out))) : w.heap.size ≤ gb250)); have n11_ := Aside0.mk ((by rw [hg]; exact Nat.ne_of_lt (blk_lt (g := gb222) (o := .cells #[.slice A1_0 l1_0.length c1_0, .int .i64 a1_1, .int .i64 a1_2, .int .i64 a1_3, .int .i64 a1_4] 24 (0, 0)) (by (with_reducible repeat (first | refine blk_drewN ?_ _ | refine blk_drew ?_ | refine blk_alloc ?_ _)); exact BK222.out)) : gb222 ≠ gb250)); have n12_ := Aside0.mk ((by rw [hg]; exact Nat.ne_of_gt (blk_lt (g := gb222) (o := .cells #[.slice A1_0 l1_0.length c1_0, .int .i64 a1_1, .int .i64 a1_2, .int .i64 a1_3, .int .i64 a1_4] 24 (0, 0)) (by (with_reducible repeat (first | refine blk_drewN ?_ _ | refine blk_drew ?_ | refine blk_alloc ?_ _)); exact BK222.out)) : gb250 ≠ gb222)); clear HO226; clear HO229; clear HO236; clear HO239; clear HO242; clear HO245; clear BK222; clear HB; have HO226 := n0_; have HO229 := n1_; have HO236 := n2_; have HO239 := n3_; have HO242 := n4_; have HO245 := n5_; have BK222 := n6_; have HB := n7_; have BK250 := n8_; have GW250 := n9_; have GE250 := n10_; have NB222_250 := n11_; have NB250_222 := n12_; clear n0_ n1_ n2_ n3_ n4_ n5_ n6_ n7_ n8_ n9_ n10_ n11_ n12_; clear hb hbox hg; obtain ⟨Ao51, co51, eo51⟩ := Kd.R_slice HO245.out; subst eo51; have hnb52 := NB250_222.out; have hnc52 := NB222_250.out; have hcz53_0 : w50.cell? ⟨gb250, 0, none⟩ = some (.slice none 0 0) := (blk_cell BK250.out 0).trans rfl; have hcz53_1 : w50.cell? ⟨gb250, 1, none⟩ = some (.int .i64 0) := (blk_cell BK250.out 1).trans rfl; have hcz53_2 : w50.cell? ⟨gb250, 2, none⟩ = some (.int .i64 0) := (blk_cell BK250.out 2).trans rfl; have hcz53_3 : w50.cell? ⟨gb250, 3, none⟩ = some (.int .i64 0) := (blk_cell BK250.out 3).trans rfl; have hcz53_4 : w50.cell? ⟨gb250, 4, none⟩ = some (.int .i64 0) := (blk_cell BK250.out 4).trans rfl; have hfz53_0 := blk_frozen BK250.out 0; have hfz53_1 := blk_frozen BK250.out 1; have hfz53_2 := blk_frozen BK250.out 2; have hfz53_3 := blk_frozen BK250.out 3; have hfz53_4 := blk_frozen BK250.out 4) | ((with_reducible refine gate_callee (f := 17) rfl ?_); refine goesL_ (some 40) rfl rfl Try.func17 (by kernel_rfl) rfl #[.slice A2 l2.length c2] rfl (by (try simp only [List.map_toArray, List.map_cons, List.map_nil]); first | done | rfl | (simp only [List.length_drop, List.length_take]; rfl)) ?_; (with_reducible refine (laws_toIntS.calls k _ _ l2 t251 _ ?side1 ?side2 A19.out).mono ?_); (case side1 => exact Kd.C_below HR2.out (by repeat (first | (with_reducible first | exact HB.out | apply below_alloc | apply pw_below_drewN | apply below_drew1 | refine below_set ?_ GE222.out | refine below_set ?_ GE250.out) | exact HB.out))); (case side2 => exact HC2.out); rintro e w54 ⟨v252, rfl, ho0, hb⟩; refine ⟨_, rfl, ?_⟩; have n0_ := Aside0.mk (Kd.R_elder' (by (with_reducible repeat (first | apply Kd.R_alloc | apply Kd.R_drewN | apply Kd.R_drew)); exact (Kd.R_mono (Kd.R_far (p := ⟨gb250, 4, none⟩) (Kd.R_far (p := ⟨gb250, 3, none⟩) (Kd.R_far (p := ⟨gb250, 2, none⟩) (Kd.R_far (p := ⟨gb250, 1, none⟩) (Kd.R_far (p := ⟨gb250, 0, none⟩) (Kd.R_types HO226.out BK250.out (by decide)) (fun _ hk => hk.2) (.slice Ao51 t243.length co51)) (fun _ hk => hk.2) (.int .i64 t246)) (fun _ hk => hk.2) (.int .i64 t247)) (fun _ hk => hk.2) (.int .i64 t248)) (fun _ hk => hk.2) (.int .i64 t249)) (fun _ h_ => h_.1))) (Kd.R_base ho0) hb); have n1_ := Aside0.mk (Kd.R_elder' (by (with_reducible repeat (first | apply Kd.R_alloc | apply Kd.R_drewN | apply Kd.R_drew)); exact (Kd.R_mono (Kd.R_far (p := ⟨gb250, 4, none⟩) (Kd.R_far (p := ⟨gb250, 3, none⟩) (Kd.R_far (p := ⟨gb250, 2, none⟩) (Kd.R_far (p := ⟨gb250, 1, none⟩) (Kd.R_far (p := ⟨gb250, 0, none⟩) (Kd.R_types HO229.out BK250.out (by decide)) (fun _ hk => hk.2) (.slice Ao51 t243.length co51)) (fun _ hk => hk.2) (.int .i64 t246)) (fun _ hk => hk.2) (.int .i64 t247)) (fun _ hk => hk.2) (.int .i64 t248)) (fun _ hk => hk.2) (.int .i64 t249)) (fun _ h_ => h_.1))) (Kd.R_base ho0) hb); have n2_ := Aside0.mk (Kd.R_elder' (by (with_reducible repeat (first | apply Kd.R_alloc | apply Kd.R_drewN | apply Kd.R_drew)); exact (Kd.R_mono (Kd.R_far (p := ⟨gb250, 4, none⟩) (Kd.R_far (p := ⟨gb250, 3, none⟩) (Kd.R_far (p := ⟨gb250, 2, none⟩) (Kd.R_far (p := ⟨gb250, 1, none⟩) (Kd.R_far (p := ⟨gb250, 0, none⟩) (Kd.R_types HO236.out BK250.out (by decide)) (fun _ hk => hk.2) (.slice Ao51 t243.length co51)) (fun _ hk => hk.2) (.int .i64 t246)) (fun _ hk => hk.2) (.int .i64 t247)) (fun _ hk => hk.2) (.int .i64 t248)) (fun _ hk => hk.2) (.int .i64 t249)) (fun _ h_ => h_.1))) (Kd.R_base ho0) hb); have n3_ := Aside0.mk (Kd.R_elder' (by (with_reducible repeat (first | apply Kd.R_alloc | apply Kd.R_drewN | apply Kd.R_drew)); exact (Kd.R_mono (Kd.R_far (p := ⟨gb250, 4, none⟩) (Kd.R_far (p := ⟨gb250, 3, none⟩) (Kd.R_far (p := ⟨gb250, 2, none⟩) (Kd.R_far (p := ⟨gb250, 1, none⟩) (Kd.R_far (p := ⟨gb250, 0, none⟩) (Kd.R_types HO239.out BK250.out (by decide)) (fun _ hk => hk.2) (.slice Ao51 t243.length co51)) (fun _ hk => hk.2) (.int .i64 t246)) (fun _ hk => hk.2) (.int .i64 t247)) (fun _ hk => hk.2) (.int .i64 t248)) (fun _ hk => hk.2) (.int .i64 t249)) (fun _ h_ => h_.1))) (Kd.R_base ho0) hb); have n4_ := Aside0.mk (Kd.R_elder' (by (with_reducible repeat (first | apply Kd.R_alloc | apply Kd.R_drewN | apply Kd.R_drew)); exact (Kd.R_mono (Kd.R_far (p := ⟨gb250, 4, none⟩) (Kd.R_far (p := ⟨gb250, 3, none⟩) (Kd.R_far (p := ⟨gb250, 2, none⟩) (Kd.R_far (p := ⟨gb250, 1, none⟩) (Kd.R_far (p := ⟨gb250, 0, none⟩) (Kd.R_types HO242.out BK250.out (by decide)) (fun _ hk => hk.2) (.slice Ao51 t243.length co51)) (fun _ hk => hk.2) (.int .i64 t246)) (fun _ hk => hk.2) (.int .i64 t247)) (fun _ hk => hk.2) (.int .i64 t248)) (fun _ hk => hk.2) (.int .i64 t249)) (fun _ h_ => h_.1))) (Kd.R_base ho0) hb); have n5_ := Aside0.mk (Kd.R_elder' (by (with_reducible repeat (first | apply Kd.R_alloc | apply Kd.R_drewN | apply Kd.R_drew)); exact (Kd.R_mono (Kd.R_far (p := ⟨gb250, 4, none⟩) (Kd.R_far (p := ⟨gb250, 3, none⟩) (Kd.R_far (p := ⟨gb250, 2, none⟩) (Kd.R_far (p := ⟨gb250, 1, none⟩) (Kd.R_far (p := ⟨gb250, 0, none⟩) (Kd.R_types HO245.out BK250.out (by decide)) (fun _ hk => hk.2) (.slice Ao51 t243.length co51)) (fun _ hk => hk.2) (.int .i64 t246)) (fun _ hk => hk.2) (.int .i64 t247)) (fun _ hk => hk.2) (.int .i64 t248)) (fun _ hk => hk.2) (.int .i64 t249)) (fun _ h_ => h_.1))) (Kd.R_base ho0) hb); have n6_ := Aside0.mk (Kd.R_lower (Kd.R_new' (Kd.R_new' (Kd.R_new' (Kd.R_new' (Kd.R_new' (Kd.R_new' ho0 (Kd.R_lt (by (with_reducible repeat (first | apply Kd.R_alloc | apply Kd.R_drewN | apply Kd.R_drew)); exact (Kd.R_mono (Kd.R_far (p := ⟨gb250, 4, none⟩) (Kd.R_far (p := ⟨gb250, 3, none⟩) (Kd.R_far (p := ⟨gb250, 2, none⟩) (Kd.R_far (p := ⟨gb250, 1, none⟩) (Kd.R_far (p := ⟨gb250, 0, none⟩) (Kd.R_types HO226.out BK250.out (by decide)) (fun _ hk => hk.2) (.slice Ao51 t243.length co51)) (fun _ hk => hk.2) (.int .i64 t246)) (fun _ hk => hk.2) (.int .i64 t247)) (fun _ hk => hk.2) (.int .i64 t248)) (fun _ hk => hk.2) (.int .i64 t249)) (fun _ h_ => h_.1))))) (Kd.R_lt (by (with_reducible repeat (first | apply Kd.R_alloc | apply Kd.R_drewN | apply Kd.R_drew)); exact (Kd.R_mono (Kd.R_far (p := ⟨gb250, 4, none⟩) (Kd.R_far (p := ⟨gb250, 3, none⟩) (Kd.R_far (p := ⟨gb250, 2, none⟩) (Kd.R_far (p := ⟨gb250, 1, none⟩) (Kd.R_far (p := ⟨gb250, 0, none⟩) (Kd.R_types HO229.out BK250.out (by decide)) (fun _ hk => hk.2) (.slice Ao51 t243.length co51)) (fun _ hk => hk.2) (.int .i64 t246)) (fun _ hk => hk.2) (.int .i64 t247)) (fun _ hk => hk.2) (.int .i64 t248)) (fun _ hk => hk.2) (.int .i64 t249)) (fun _ h_ => h_.1))))) (Kd.R_lt (by (with_reducible repeat (first | apply Kd.R_alloc | apply Kd.R_drewN | apply Kd.R_drew)); exact (Kd.R_mono (Kd.R_far (p := ⟨gb250, 4, none⟩) (Kd.R_far (p := ⟨gb250, 3, none⟩) (Kd.R_far (p := ⟨gb250, 2, none⟩) (Kd.R_far (p := ⟨gb250, 1, none⟩) (Kd.R_far (p := ⟨gb250, 0, none⟩) (Kd.R_types HO236.out BK250.out (by decide)) (fun _ hk => hk.2) (.slice Ao51 t243.length co51)) (fun _ hk => hk.2) (.int .i64 t246)) (fun _ hk => hk.2) (.int .i64 t247)) (fun _ hk => hk.2) (.int .i64 t248)) (fun _ hk => hk.2) (.int .i64 t249)) (fun _ h_ => h_.1))))) (Kd.R_lt (by (with_reducible repeat (first | apply Kd.R_alloc | apply Kd.R_drewN | apply Kd.R_drew)); exact (Kd.R_mono (Kd.R_far (p := ⟨gb250, 4, none⟩) (Kd.R_far (p := ⟨gb250, 3, none⟩) (Kd.R_far (p := ⟨gb250, 2, none⟩) (Kd.R_far (p := ⟨gb250, 1, none⟩) (Kd.R_far (p := ⟨gb250, 0, none⟩) (Kd.R_types HO239.out BK250.out (by decide)) (fun _ hk => hk.2) (.slice Ao51 t243.length co51)) (fun _ hk => hk.2) (.int .i64 t246)) (fun _ hk => hk.2) (.int .i64 t247)) (fun _ hk => hk.2) (.int .i64 t248)) (fun _ hk => hk.2) (.int .i64 t249)) (fun _ h_ => h_.1))))) (Kd.R_lt (by (with_reducible repeat (first | apply Kd.R_alloc | apply Kd.R_drewN | apply Kd.R_drew)); exact (Kd.R_mono (Kd.R_far (p := ⟨gb250, 4, none⟩) (Kd.R_far (p := ⟨gb250, 3, none⟩) (Kd.R_far (p := ⟨gb250, 2, none⟩) (Kd.R_far (p := ⟨gb250, 1, none⟩) (Kd.R_far (p := ⟨gb250, 0, none⟩) (Kd.R_types HO242.out BK250.out (by decide)) (fun _ hk => hk.2) (.slice Ao51 t243.length co51)) (fun _ hk => hk.2) (.int .i64 t246)) (fun _ hk => hk.2) (.int .i64 t247)) (fun _ hk => hk.2) (.int .i64 t248)) (fun _ hk => hk.2) (.int .i64 t249)) (fun _ h_ => h_.1))))) (Kd.R_lt (by (with_reducible repeat (first | apply Kd.R_alloc | apply Kd.R_drewN | apply Kd.R_drew)); exact (Kd.R_mono (Kd.R_far (p := ⟨gb250, 4, none⟩) (Kd.R_far (p := ⟨gb250, 3, none⟩) (Kd.R_far (p := ⟨gb250, 2, none⟩) (Kd.R_far (p := ⟨gb250, 1, none⟩) (Kd.R_far (p := ⟨gb250, 0, none⟩) (Kd.R_types HO245.out BK250.out (by decide)) (fun _ hk => hk.2) (.slice Ao51 t243.length co51)) (fun _ hk => hk.2) (.int .i64 t246)) (fun _ hk => hk.2) (.int .i64 t247)) (fun _ hk => hk.2) (.int .i64 t248)) (fun _ hk => hk.2) (.int .i64 t249)) (fun _ h_ => h_.1))))) (below_size (by repeat (first | (with_reducible first | exact HB.out | apply below_alloc | apply pw_below_drewN | apply below_drew1 | refine below_set ?_ GE222.out | refine below_set ?_ GE250.out) | exact HB.out)))); have n7_ := Aside0.mk (blk_below (g := gb222) (o := .cells #[.slice A1_0 l1_0.length c1_0, .int .i64 a1_1, .int .i64 a1_2, .int .i64 a1_3, .int .i64 a1_4] 24 (0, 0)) (by (with_reducible repeat (first | refine blk_drewN ?_ _ | refine blk_drew ?_ | refine blk_alloc ?_ _)); refine blk_far ?_ NB222_250.out _; (with_reducible repeat (first | refine blk_drewN ?_ _ | refine blk_drew ?_ | refine blk_alloc ?_ _)); refine blk_far ?_ NB222_250.out _; (with_reducible repeat (first | refine blk_drewN ?_ _ | refine blk_drew ?_ | refine blk_alloc ?_ _)); refine blk_far ?_ NB222_250.out _; (with_reducible repeat (first | refine blk_drewN ?_ _ | refine blk_drew ?_ | refine blk_alloc ?_ _)); refine blk_far ?_ NB222_250.out _; (with_reducible repeat (first | refine blk_drewN ?_ _ | refine blk_drew ?_ | refine blk_alloc ?_ _)); refine blk_far ?_ NB222_250.out _; (with_reducible repeat (first | refine blk_drewN ?_ _ | refine blk_drew ?_ | refine blk_alloc ?_ _)); exact BK222.out) hb); have n8_ := Aside0.mk (blk_below (g := gb250) (o := .cells #[.slice Ao51 t243.length co51, .int .i64 t246, .int .i64 t247, .int .i64 t248, .int .i64 t249] 28 (0, 0)) (by (with_reducible repeat (first | refine blk_drewN ?_ _ | refine blk_drew ?_ | refine blk_alloc ?_ _)); refine blk_put (cs := #[.slice Ao51 t243.length co51, .int .i64 t246, .int .i64 t247, .int .i64 t248, .int .i64 0]) ?_ 4 _ rfl; (with_reducible repeat (first | refine blk_drewN ?_ _ | refine blk_drew ?_ | refine blk_alloc ?_ _)); refine blk_put (cs := #[.slice Ao51 t243.length co51, .int .i64 t246, .int .i64 t247, .int .i64 0, .int .i64 0]) ?_ 3 _ rfl; (with_reducible repeat (first | refine blk_drewN ?_ _ | refine blk_drew ?_ | refine blk_alloc ?_ _)); refine blk_put (cs := #[.slice Ao51 t243.length co51, .int .i64 t246, .int .i64 0, .int .i64 0, .int .i64 0]) ?_ 2 _ rfl; (with_reducible repeat (first | refine blk_drewN ?_ _ | refine blk_drew ?_ | refine blk_alloc ?_ _)); refine blk_put (cs := #[.slice Ao51 t243.length co51, .int .i64 0, .int .i64 0, .int .i64 0, .int .i64 0]) ?_ 1 _ rfl; (with_reducible repeat (first | refine blk_drewN ?_ _ | refine blk_drew ?_ | refine blk_alloc ?_ _)); refine blk_put (cs := #[.slice none 0 0, .int .i64 0, .int .i64 0, .int .i64 0, .int .i64 0]) ?_ 0 _ rfl; (with_reducible repeat (first | refine blk_drewN ?_ _ | refine blk_drew ?_ | refine blk_alloc ?_ _)); exact BK250.out) hb); have n9_ := Aside0.mk (below_step (by repeat (first | (with_reducible first | exact HB.out | apply below_alloc | apply pw_below_drewN | apply below_drew1 | refine below_set ?_ GE222.out | refine below_set ?_ GE250.out) | exact HB.out)) hb); clear HO226; clear HO229; clear HO236; clear HO239; clear HO242; clear HO245; clear BK222; clear BK250; clear HB; have HO226 := n0_; have HO229 := n1_; have HO236 := n2_; have HO239 := n3_; have HO242 := n4_; have HO245 := n5_; have HO253 := n6_; have BK222 := n7_; have BK250 := n8_; have HB := n9_; clear n0_ n1_ n2_ n3_ n4_ n5_ n6_ n7_ n8_ n9_; (try clear hb); (try clear hb2); (try clear hk); (try clear hi); (try clear ho0); have hcz55_0 : w54.cell? ⟨gb250, 0, none⟩ = some (.slice Ao51 t243.length co51) := (blk_cell BK250.out 0).trans rfl; have hcz55_1 : w54.cell? ⟨gb250, 1, none⟩ = some (.int .i64 t246) := (blk_cell BK250.out 1).trans rfl; have hcz55_2 : w54.cell? ⟨gb250, 2, none⟩ = some (.int .i64 t247) := (blk_cell BK250.out 2).trans rfl; have hcz55_3 : w54.cell? ⟨gb250, 3, none⟩ = some (.int .i64 t248) := (blk_cell BK250.out 3).trans rfl; have hcz55_4 : w54.cell? ⟨gb250, 4, none⟩ = some (.int .i64 t249) := (blk_cell BK250.out 4).trans rfl; have hfz55_0 := blk_frozen BK250.out 0; have hfz55_1 := blk_frozen BK250.out 1; have hfz55_2 := blk_frozen BK250.out 2; have hfz55_3 := blk_frozen BK250.out 3; have hfz55_4 := blk_frozen BK250.out 4; obtain ⟨Ao56, co56, eo56⟩ := Kd.R_slice HO242.out; subst eo56; obtain ⟨Ao57, co57, eo57⟩ := Kd.R_slice HO253.out; subst eo57) | ((with_reducible refine gate_callee (f := 26) rfl ?_); refine goesL_ (some 44) rfl rfl Try.func26 (by kernel_rfl) rfl #[.slice Ao56 t240.length co56, .agg #[.slice Ao51 t243.length co51, .int .i64 t246, .int .i64 t247, .int .i64 t248, .int .i64 t249], .slice Ao57 t251.length co57] rfl (by (try simp only [List.map_toArray, List.map_cons, List.map_nil]); first | done | rfl | (simp only [List.length_drop, List.length_take]; rfl)) ?_; (with_reducible refine (impl_PutFirst.calls k _ _ t240 _ _ t243 t246 t247 t248 t249 _ _ t251 t254 _ ?side1 ?side2 ?side3 ?side4 ?side5 ?side6 A20.out).mono ?_); (case side1 => repeat (first | exact (Kd.R_reads' HO242.out).2.2 | (with_reducible refine Kd.C_alloc ?_ _) | (with_reducible refine Kd.C_drewN ?_ _) | (with_reducible refine Kd.C_drew ?_))); (case side2 => exact (Kd.R_reads' HO242.out).2.1); (case side3 => repeat (first | exact (Kd.R_reads' HO245.out).2.2 | (with_reducible refine Kd.C_alloc ?_ _) | (with_reducible refine Kd.C_drewN ?_ _) | (with_reducible refine Kd.C_drew ?_))); (case side4 => exact (Kd.R_reads' HO245.out).2.1); (case side5 => repeat (first | exact (Kd.R_reads' HO253.out).2.2 | (with_reducible refine Kd.C_alloc ?_ _) | (with_reducible refine Kd.C_drewN ?_ _) | (with_reducible refine Kd.C_drew ?_))); (case side6 => exact (Kd.R_reads' HO253.out).2.1); rintro e w58 ⟨v255, rfl, ho0, hb⟩; refine ⟨_, rfl, ?_⟩; have n0_ := Aside0.mk (Kd.R_elder' (by (with_reducible repeat (first | apply Kd.R_alloc | apply Kd.R_drewN | apply Kd.R_drew)); exact HO226.out) (Kd.R_base ho0) hb); have n1_ := Aside0.mk (Kd.R_elder' (by (with_reducible repeat (first | apply Kd.R_alloc | apply Kd.R_drewN | apply Kd.R_drew)); exact HO229.out) (Kd.R_base ho0) hb); have n2_ := Aside0.mk (Kd.R_elder' (by (with_reducible repeat (first | apply Kd.R_alloc | apply Kd.R_drewN | apply Kd.R_drew)); exact HO236.out) (Kd.R_base ho0) hb); have n3_ := Aside0.mk (Kd.R_elder' (by (with_reducible repeat (first | apply Kd.R_alloc | apply Kd.R_drewN | apply Kd.R_drew)); exact HO239.out) (Kd.R_base ho0) hb); have n4_ := Aside0.mk (Kd.R_elder' (by (with_reducible repeat (first | apply Kd.R_alloc | apply Kd.R_drewN | apply Kd.R_drew)); exact HO242.out) (Kd.R_base ho0) hb); have n5_ := Aside0.mk (Kd.R_elder' (by (with_reducible repeat (first | apply Kd.R_alloc | apply Kd.R_drewN | apply Kd.R_drew)); exact HO245.out) (Kd.R_base ho0) hb); have n6_ := Aside0.mk (Kd.R_elder' (by (with_reducible repeat (first | apply Kd.R_alloc | apply Kd.R_drewN | apply Kd.R_drew)); exact HO253.out) (Kd.R_base ho0) hb); have n7_ := Aside0.mk (Kd.R_lower (Kd.R_new' (Kd.R_new' (Kd.R_new' (Kd.R_new' (Kd.R_new' (Kd.R_new' (Kd.R_new' ho0 (Kd.R_lt (by (with_reducible repeat (first | apply Kd.R_alloc | apply Kd.R_drewN | apply Kd.R_drew)); exact HO226.out))) (Kd.R_lt (by (with_reducible repeat (first | apply Kd.R_alloc | apply Kd.R_drewN | apply Kd.R_drew)); exact HO229.out))) (Kd.R_lt (by (with_reducible repeat (first | apply Kd.R_alloc | apply Kd.R_drewN | apply Kd.R_drew)); exact HO236.out))) (Kd.R_lt (by (with_reducible repeat (first | apply Kd.R_alloc | apply Kd.R_drewN | apply Kd.R_drew)); exact HO239.out))) (Kd.R_lt (by (with_reducible repeat (first | apply Kd.R_alloc | apply Kd.R_drewN | apply Kd.R_drew)); exact HO242.out))) (Kd.R_lt (by (with_reducible repeat (first | apply Kd.R_alloc | apply Kd.R_drewN | apply Kd.R_drew)); exact HO245.out))) (Kd.R_lt (by (with_reducible repeat (first | apply Kd.R_alloc | apply Kd.R_drewN | apply Kd.R_drew)); exact HO253.out))) (below_size (by repeat (first | (with_reducible first | exact HB.out | apply below_alloc | apply pw_below_drewN | apply below_drew1 | refine below_set ?_ GE222.out | refine below_set ?_ GE250.out) | exact HB.out)))); have n8_ := Aside0.mk (blk_below (g := gb222) (o := .cells #[.slice A1_0 l1_0.length c1_0, .int .i64 a1_1, .int .i64 a1_2, .int .i64 a1_3, .int .i64 a1_4] 24 (0, 0)) (by (with_reducible repeat (first | refine blk_drewN ?_ _ | refine blk_drew ?_ | refine blk_alloc ?_ _)); exact BK222.out) hb); have n9_ := Aside0.mk (blk_below (g := gb250) (o := .cells #[.slice Ao51 t243.length co51, .int .i64 t246, .int .i64 t247, .int .i64 t248, .int .i64 t249] 28 (0, 0)) (by (with_reducible repeat (first | refine blk_drewN ?_ _ | refine blk_drew ?_ | refine blk_alloc ?_ _)); exact BK250.out) hb); have n10_ := Aside0.mk (below_step (by repeat (first | (with_reducible first | exact HB.out | apply below_alloc | apply pw_below_drewN | apply below_drew1 | refine below_set ?_ GE222.out | refine below_set ?_ GE250.out) | exact HB.out)) hb); clear HO226; clear HO229; clear HO236; clear HO239; clear HO242; clear HO245; clear HO253; clear BK222; clear BK250; clear HB; have HO226 := n0_; have HO229 := n1_; have HO236 := n2_; have HO239 := n3_; have HO242 := n4_; have HO245 := n5_; have HO253 := n6_; have HO256 := n7_; have BK222 := n8_; have BK250 := n9_; have HB := n10_; clear n0_ n1_ n2_ n3_ n4_ n5_ n6_ n7_ n8_ n9_ n10_; (try clear hb); (try clear hb2); (try clear hk); (try clear hi); (try clear ho0); obtain ⟨Ao59, co59, eo59⟩ := Kd.R_slice HO256.out; subst eo59; obtain ⟨Ao60, co60, eo60⟩ := Kd.R_slice HO239.out; subst eo60) | ((with_reducible refine gate_callee (f := 20) rfl ?_); refine goesL_ (some 47) rfl rfl Try.func20 (by kernel_rfl) rfl #[.slice Ao59 t254.length co59, .slice Ao60 t237.length co60] rfl (by (try simp only [List.map_toArray, List.map_cons, List.map_nil]); first | done | rfl | (simp only [List.length_drop, List.length_take]; rfl)) ?_; (with_reducible refine (laws_eqIntS.calls k _ _ t254 _ _ t237 true _ ?side1 ?side2 ?side3 ?side4 A21.out).mono ?_); (case side1 => repeat (first | exact (Kd.R_reads' HO256.out).2.2 | (with_reducible refine Kd.C_alloc ?_ _) | (with_reducible refine Kd.C_drewN ?_ _) | (with_reducible refine Kd.C_drew ?_))); (case side2 => exact (Kd.R_reads' HO256.out).2.1); (case side3 => repeat (first | exact (Kd.R_reads' HO239.out).2.2 | (with_reducible refine Kd.C_alloc ?_ _) | (with_reducible refine Kd.C_drewN ?_ _) | (with_reducible refine Kd.C_drew ?_))); (case side4 => exact (Kd.R_reads' HO239.out).2.1); rintro e w' ⟨rfl, ⟨nd, rfl⟩⟩; refine ⟨_, rfl, ?_⟩) | ((with_reducible refine gate_callee (f := 17) rfl ?_); refine goesL_ (some 51) rfl rfl Try.func17 (by kernel_rfl) rfl #[.slice A0 l0.length c0] rfl (by (try simp only [List.map_toArray, List.map_cons, List.map_nil]); first | done | rfl | (simp only [List.length_drop, List.length_take]; rfl)) ?_; (with_reducible refine (laws_toIntS.calls k _ _ l0 t258 _ ?side1 ?side2 A23.out).mono ?_); (case side1 => repeat (first | exact (Kd.C_below HR0.out (by repeat (first | (with_reducible first | exact HB.out | apply below_alloc | apply pw_below_drewN | apply below_drew1 | refine below_set ?_ GE222.out | refine below_set ?_ GE250.out) | exact HB.out))) | (with_reducible refine Kd.C_alloc ?_ _) | (with_reducible refine Kd.C_drewN ?_ _) | (with_reducible refine Kd.C_drew ?_))); (case side2 => exact HC0.out); rintro e w61 ⟨v259, rfl, ho0, hb⟩; refine ⟨_, rfl, ?_⟩; have n0_ := Aside0.mk (Kd.R_elder' (by (with_reducible repeat (first | apply Kd.R_alloc | apply Kd.R_drewN | apply Kd.R_drew)); exact HO226.out) (Kd.R_base ho0) hb); have n1_ := Aside0.mk (Kd.R_elder' (by (with_reducible repeat (first | apply Kd.R_alloc | apply Kd.R_drewN | apply Kd.R_drew)); exact HO229.out) (Kd.R_base ho0) hb); have n2_ := Aside0.mk (Kd.R_elder' (by (with_reducible repeat (first | apply Kd.R_alloc | apply Kd.R_drewN | apply Kd.R_drew)); exact HO236.out) (Kd.R_base ho0) hb); have n3_ := Aside0.mk (Kd.R_elder' (by (with_reducible repeat (first | apply Kd.R_alloc | apply Kd.R_drewN | apply Kd.R_drew)); exact HO239.out) (Kd.R_base ho0) hb); have n4_ := Aside0.mk (Kd.R_elder' (by (with_reducible repeat (first | apply Kd.R_alloc | apply Kd.R_drewN | apply Kd.R_drew)); exact HO242.out) (Kd.R_base ho0) hb); have n5_ := Aside0.mk (Kd.R_elder' (by (with_reducible repeat (first | apply Kd.R_alloc | apply Kd.R_drewN | apply Kd.R_drew)); exact HO245.out) (Kd.R_base ho0) hb); have n6_ := Aside0.mk (Kd.R_elder' (by (with_reducible repeat (first | apply Kd.R_alloc | apply Kd.R_drewN | apply Kd.R_drew)); exact HO253.out) (Kd.R_base ho0) hb); have n7_ := Aside0.mk (Kd.R_elder' (by (with_reducible repeat (first | apply Kd.R_alloc | apply Kd.R_drewN | apply Kd.R_drew)); exact HO256.out) (Kd.R_base ho0) hb); have n8_ := Aside0.mk (Kd.R_lower (Kd.R_new' (Kd.R_new' (Kd.R_new' (Kd.R_new' (Kd.R_new' (Kd.R_new' (Kd.R_new' (Kd.R_new' ho0 (Kd.R_lt (by (with_reducible repeat (first | apply Kd.R_alloc | apply Kd.R_drewN | apply Kd.R_drew)); exact HO226.out))) (Kd.R_lt (by (with_reducible repeat (first | apply Kd.R_alloc | apply Kd.R_drewN | apply Kd.R_drew)); exact HO229.out))) (Kd.R_lt (by (with_reducible repeat (first | apply Kd.R_alloc | apply Kd.R_drewN | apply Kd.R_drew)); exact HO236.out))) (Kd.R_lt (by (with_reducible repeat (first | apply Kd.R_alloc | apply Kd.R_drewN | apply Kd.R_drew)); exact HO239.out))) (Kd.R_lt (by (with_reducible repeat (first | apply Kd.R_alloc | apply Kd.R_drewN | apply Kd.R_drew)); exact HO242.out))) (Kd.R_lt (by (with_reducible repeat (first | apply Kd.R_alloc | apply Kd.R_drewN | apply Kd.R_drew)); exact HO245.out))) (Kd.R_lt (by (with_reducible repeat (first | apply Kd.R_alloc | apply Kd.R_drewN | apply Kd.R_drew)); exact HO253.out))) (Kd.R_lt (by (with_reducible repeat (first | apply Kd.R_alloc | apply Kd.R_drewN | apply Kd.R_drew)); exact HO256.out))) (below_size (by repeat (first | (with_reducible first | exact HB.out | apply below_alloc | apply pw_below_drewN | apply below_drew1 | refine below_set ?_ GE222.out | refine below_set ?_ GE250.out) | exact HB.out)))); have n9_ := Aside0.mk (blk_below (g := gb222) (o := .cells #[.slice A1_0 l1_0.length c1_0, .int .i64 a1_1, .int .i64 a1_2, .int .i64 a1_3, .int .i64 a1_4] 24 (0, 0)) (by (with_reducible repeat (first | refine blk_drewN ?_ _ | refine blk_drew ?_ | refine blk_alloc ?_ _)); exact BK222.out) hb); have n10_ := Aside0.mk (blk_below (g := gb250) (o := .cells #[.slice Ao51 t243.length co51, .int .i64 t246, .int .i64 t247, .int .i64 t248, .int .i64 t249] 28 (0, 0)) (by (with_reducible repeat (first | refine blk_drewN ?_ _ | refine blk_drew ?_ | refine blk_alloc ?_ _)); exact BK250.out) hb); have n11_ := Aside0.mk (below_step (by repeat (first | (with_reducible first | exact HB.out | apply below_alloc | apply pw_below_drewN | apply below_drew1 | refine below_set ?_ GE222.out | refine below_set ?_ GE250.out) | exact HB.out)) hb); clear HO226; clear HO229; clear HO236; clear HO239; clear HO242; clear HO245; clear HO253; clear HO256; clear BK222; clear BK250; clear HB; have HO226 := n0_; have HO229 := n1_; have HO236 := n2_; have HO239 := n3_; have HO242 := n4_; have HO245 := n5_; have HO253 := n6_; have HO256 := n7_; have HO260 := n8_; have BK222 := n9_; have BK250 := n10_; have HB := n11_; clear n0_ n1_ n2_ n3_ n4_ n5_ n6_ n7_ n8_ n9_ n10_ n11_; (try clear hb); (try clear hb2); (try clear hk); (try clear hi); (try clear ho0); obtain ⟨Ao62, co62, eo62⟩ := Kd.R_slice HO260.out; subst eo62) | ((with_reducible refine gate_callee (f := 20) rfl ?_); refine goesL_ (some 52) rfl rfl Try.func20 (by kernel_rfl) rfl #[.slice Ao56 t240.length co56, .slice Ao62 t258.length co62] rfl (by (try simp only [List.map_toArray, List.map_cons, List.map_nil]); first | done | rfl | (simp only [List.length_drop, List.length_take]; rfl)) ?_; (with_reducible refine (laws_eqIntS.calls k _ _ t240 _ _ t258 true _ ?side1 ?side2 ?side3 ?side4 A24.out).mono ?_); (case side1 => repeat (first | exact (Kd.R_reads' HO242.out).2.2 | (with_reducible refine Kd.C_alloc ?_ _) | (with_reducible refine Kd.C_drewN ?_ _) | (with_reducible refine Kd.C_drew ?_))); (case side2 => exact (Kd.R_reads' HO242.out).2.1); (case side3 => repeat (first | exact (Kd.R_reads' HO260.out).2.2 | (with_reducible refine Kd.C_alloc ?_ _) | (with_reducible refine Kd.C_drewN ?_ _) | (with_reducible refine Kd.C_drew ?_))); (case side4 => exact (Kd.R_reads' HO260.out).2.1); rintro e w' ⟨rfl, ⟨nd, rfl⟩⟩; refine ⟨_, rfl, ?_⟩))
                (try (rw [drewN_self w61]; generalize hq_ : World.drewN w61 _ = w61; have n0_ : Aside0 (Kd.R (Kd.int .i64) 3 w61 w.heap.size (fun k_ => some k_ ≠ (.slice Ao44 t227.length co44 : Value).ownBlock ∧ some k_ ≠ (.slice Ao45 t234.length co45 : Value).ownBlock ∧ some k_ ≠ (.slice Ao60 t237.length co60 : Value).ownBlock ∧ some k_ ≠ (.slice Ao56 t240.length co56 : Value).ownBlock ∧ some k_ ≠ (.slice Ao51 t243.length co51 : Value).ownBlock ∧ some k_ ≠ (.slice Ao57 t251.length co57 : Value).ownBlock ∧ some k_ ≠ (.slice Ao59 t254.length co59 : Value).ownBlock ∧ some k_ ≠ (.slice Ao62 t258.length co62 : Value).ownBlock) (.slice Ao43 t224.length co43) t224) := ⟨by rw [← hq_]; exact (by (with_reducible repeat (first | apply Kd.R_alloc | apply Kd.R_drewN | apply Kd.R_drew)); exact Kd.R_mono HO226.out (fun _ hk => by simp only [ne_eq, hk, not_false_eq_true, and_self]))⟩; have n1_ : Aside0 (Kd.R (Kd.int .i64) 3 w61 w.heap.size (fun k_ => some k_ ≠ (.slice Ao43 t224.length co43 : Value).ownBlock ∧ some k_ ≠ (.slice Ao45 t234.length co45 : Value).ownBlock ∧ some k_ ≠ (.slice Ao60 t237.length co60 : Value).ownBlock ∧ some k_ ≠ (.slice Ao56 t240.length co56 : Value).ownBlock ∧ some k_ ≠ (.slice Ao51 t243.length co51 : Value).ownBlock ∧ some k_ ≠ (.slice Ao57 t251.length co57 : Value).ownBlock ∧ some k_ ≠ (.slice Ao59 t254.length co59 : Value).ownBlock ∧ some k_ ≠ (.slice Ao62 t258.length co62 : Value).ownBlock) (.slice Ao44 t227.length co44) t227) := ⟨by rw [← hq_]; exact (by (with_reducible repeat (first | apply Kd.R_alloc | apply Kd.R_drewN | apply Kd.R_drew)); exact Kd.R_mono HO229.out (fun _ hk => by simp only [ne_eq, hk, not_false_eq_true, and_self]))⟩; have n2_ : Aside0 (Kd.R (Kd.int .i64) 3 w61 w.heap.size (fun k_ => some k_ ≠ (.slice Ao43 t224.length co43 : Value).ownBlock ∧ some k_ ≠ (.slice Ao44 t227.length co44 : Value).ownBlock ∧ some k_ ≠ (.slice Ao60 t237.length co60 : Value).ownBlock ∧ some k_ ≠ (.slice Ao56 t240.length co56 : Value).ownBlock ∧ some k_ ≠ (.slice Ao51 t243.length co51 : Value).ownBlock ∧ some k_ ≠ (.slice Ao57 t251.length co57 : Value).ownBlock ∧ some k_ ≠ (.slice Ao59 t254.length co59 : Value).ownBlock ∧ some k_ ≠ (.slice Ao62 t258.length co62 : Value).ownBlock) (.slice Ao45 t234.length co45) t234) := ⟨by rw [← hq_]; exact (by (with_reducible repeat (first | apply Kd.R_alloc | apply Kd.R_drewN | apply Kd.R_drew)); exact Kd.R_mono HO236.out (fun _ hk => by simp only [ne_eq, hk, not_false_eq_true, and_self]))⟩; have n3_ : Aside0 (Kd.R (Kd.int .i64) 3 w61 w.heap.size (fun k_ => some k_ ≠ (.slice Ao43 t224.length co43 : Value).ownBlock ∧ some k_ ≠ (.slice Ao44 t227.length co44 : Value).ownBlock ∧ some k_ ≠ (.slice Ao45 t234.length co45 : Value).ownBlock ∧ some k_ ≠ (.slice Ao56 t240.length co56 : Value).ownBlock ∧ some k_ ≠ (.slice Ao51 t243.length co51 : Value).ownBlock ∧ some k_ ≠ (.slice Ao57 t251.length co57 : Value).ownBlock ∧ some k_ ≠ (.slice Ao59 t254.length co59 : Value).ownBlock ∧ some k_ ≠ (.slice Ao62 t258.length co62 : Value).ownBlock) (.slice Ao60 t237.length co60) t237) := ⟨by rw [← hq_]; exact (by (with_reducible repeat (first | apply Kd.R_alloc | apply Kd.R_drewN | apply Kd.R_drew)); exact Kd.R_mono HO239.out (fun _ hk => by simp only [ne_eq, hk, not_false_eq_true, and_self]))⟩; have n4_ : Aside0 (Kd.R (Kd.int .i64) 3 w61 w.heap.size (fun k_ => some k_ ≠ (.slice Ao43 t224.length co43 : Value).ownBlock ∧ some k_ ≠ (.slice Ao44 t227.length co44 : Value).ownBlock ∧ some k_ ≠ (.slice Ao45 t234.length co45 : Value).ownBlock ∧ some k_ ≠ (.slice Ao60 t237.length co60 : Value).ownBlock ∧ some k_ ≠ (.slice Ao51 t243.length co51 : Value).ownBlock ∧ some k_ ≠ (.slice Ao57 t251.length co57 : Value).ownBlock ∧ some k_ ≠ (.slice Ao59 t254.length co59 : Value).ownBlock ∧ some k_ ≠ (.slice Ao62 t258.length co62 : Value).ownBlock) (.slice Ao56 t240.length co56) t240) := ⟨by rw [← hq_]; exact (by (with_reducible repeat (first | apply Kd.R_alloc | apply Kd.R_drewN | apply Kd.R_drew)); exact Kd.R_mono HO242.out (fun _ hk => by simp only [ne_eq, hk, not_false_eq_true, and_self]))⟩; have n5_ : Aside0 (Kd.R (Kd.int .i64) 3 w61 w.heap.size (fun k_ => some k_ ≠ (.slice Ao43 t224.length co43 : Value).ownBlock ∧ some k_ ≠ (.slice Ao44 t227.length co44 : Value).ownBlock ∧ some k_ ≠ (.slice Ao45 t234.length co45 : Value).ownBlock ∧ some k_ ≠ (.slice Ao60 t237.length co60 : Value).ownBlock ∧ some k_ ≠ (.slice Ao56 t240.length co56 : Value).ownBlock ∧ some k_ ≠ (.slice Ao57 t251.length co57 : Value).ownBlock ∧ some k_ ≠ (.slice Ao59 t254.length co59 : Value).ownBlock ∧ some k_ ≠ (.slice Ao62 t258.length co62 : Value).ownBlock) (.slice Ao51 t243.length co51) t243) := ⟨by rw [← hq_]; exact (by (with_reducible repeat (first | apply Kd.R_alloc | apply Kd.R_drewN | apply Kd.R_drew)); exact Kd.R_mono HO245.out (fun _ hk => by simp only [ne_eq, hk, not_false_eq_true, and_self]))⟩; have n6_ : Aside0 (Kd.R (Kd.int .i64) 3 w61 w.heap.size (fun k_ => some k_ ≠ (.slice Ao43 t224.length co43 : Value).ownBlock ∧ some k_ ≠ (.slice Ao44 t227.length co44 : Value).ownBlock ∧ some k_ ≠ (.slice Ao45 t234.length co45 : Value).ownBlock ∧ some k_ ≠ (.slice Ao60 t237.length co60 : Value).ownBlock ∧ some k_ ≠ (.slice Ao56 t240.length co56 : Value).ownBlock ∧ some k_ ≠ (.slice Ao51 t243.length co51 : Value).ownBlock ∧ some k_ ≠ (.slice Ao59 t254.length co59 : Value).ownBlock ∧ some k_ ≠ (.slice Ao62 t258.length co62 : Value).ownBlock) (.slice Ao57 t251.length co57) t251) := ⟨by rw [← hq_]; exact (by (with_reducible repeat (first | apply Kd.R_alloc | apply Kd.R_drewN | apply Kd.R_drew)); exact Kd.R_mono HO253.out (fun _ hk => by simp only [ne_eq, hk, not_false_eq_true, and_self]))⟩; have n7_ : Aside0 (Kd.R (Kd.int .i64) 3 w61 w.heap.size (fun k_ => some k_ ≠ (.slice Ao43 t224.length co43 : Value).ownBlock ∧ some k_ ≠ (.slice Ao44 t227.length co44 : Value).ownBlock ∧ some k_ ≠ (.slice Ao45 t234.length co45 : Value).ownBlock ∧ some k_ ≠ (.slice Ao60 t237.length co60 : Value).ownBlock ∧ some k_ ≠ (.slice Ao56 t240.length co56 : Value).ownBlock ∧ some k_ ≠ (.slice Ao51 t243.length co51 : Value).ownBlock ∧ some k_ ≠ (.slice Ao57 t251.length co57 : Value).ownBlock ∧ some k_ ≠ (.slice Ao62 t258.length co62 : Value).ownBlock) (.slice Ao59 t254.length co59) t254) := ⟨by rw [← hq_]; exact (by (with_reducible repeat (first | apply Kd.R_alloc | apply Kd.R_drewN | apply Kd.R_drew)); exact Kd.R_mono HO256.out (fun _ hk => by simp only [ne_eq, hk, not_false_eq_true, and_self]))⟩; have n8_ : Aside0 (Kd.R (Kd.int .i64) 3 w61 w.heap.size (fun k_ => some k_ ≠ (.slice Ao43 t224.length co43 : Value).ownBlock ∧ some k_ ≠ (.slice Ao44 t227.length co44 : Value).ownBlock ∧ some k_ ≠ (.slice Ao45 t234.length co45 : Value).ownBlock ∧ some k_ ≠ (.slice Ao60 t237.length co60 : Value).ownBlock ∧ some k_ ≠ (.slice Ao56 t240.length co56 : Value).ownBlock ∧ some k_ ≠ (.slice Ao51 t243.length co51 : Value).ownBlock ∧ some k_ ≠ (.slice Ao57 t251.length co57 : Value).ownBlock ∧ some k_ ≠ (.slice Ao59 t254.length co59 : Value).ownBlock) (.slice Ao62 t258.length co62) t258) := ⟨by rw [← hq_]; exact (by (with_reducible repeat (first | apply Kd.R_alloc | apply Kd.R_drewN | apply Kd.R_drew)); exact Kd.R_mono HO260.out (fun _ hk => by simp only [ne_eq, hk, not_false_eq_true, and_self]))⟩; have n9_ : Aside0 (w61.heap[gb222]? = some (.cells #[.slice A1_0 l1_0.length c1_0, .int .i64 a1_1, .int .i64 a1_2, .int .i64 a1_3, .int .i64 a1_4] 24 (0, 0))) := ⟨by rw [← hq_]; exact (by (with_reducible repeat (first | refine blk_drewN ?_ _ | refine blk_drew ?_ | refine blk_alloc ?_ _)); exact BK222.out)⟩; have n10_ : Aside0 (w61.heap[gb250]? = some (.cells #[.slice Ao51 t243.length co51, .int .i64 t246, .int .i64 t247, .int .i64 t248, .int .i64 t249] 28 (0, 0))) := ⟨by rw [← hq_]; exact (by (with_reducible repeat (first | refine blk_drewN ?_ _ | refine blk_drew ?_ | refine blk_alloc ?_ _)); exact BK250.out)⟩; have n11_ : Aside0 (Below w.heap.size w w61) := ⟨by rw [← hq_]; exact (by repeat (first | (with_reducible first | exact HB.out | apply below_alloc | apply pw_below_drewN | apply below_drew1 | refine below_set ?_ GE222.out | refine below_set ?_ GE250.out) | exact HB.out))⟩; clear HO226 HO229 HO236 HO239 HO242 HO245 HO253 HO256 HO260 BK222 BK250 HB hq_; have HO226 := n0_; have HO229 := n1_; have HO236 := n2_; have HO239 := n3_; have HO242 := n4_; have HO245 := n5_; have HO253 := n6_; have HO256 := n7_; have HO260 := n8_; have BK222 := n9_; have BK250 := n10_; have HB := n11_; clear n0_ n1_ n2_ n3_ n4_ n5_ n6_ n7_ n8_ n9_ n10_ n11_))
                have n0_ := Aside0.mk (Kd.R_drew HO226.out)
                have n1_ := Aside0.mk (Kd.R_drew HO229.out)
                have n2_ := Aside0.mk (Kd.R_drew HO236.out)
                have n3_ := Aside0.mk (Kd.R_drew HO239.out)
                have n4_ := Aside0.mk (Kd.R_drew HO242.out)
                have n5_ := Aside0.mk (Kd.R_drew HO245.out)
                have n6_ := Aside0.mk (Kd.R_drew HO253.out)
                have n7_ := Aside0.mk (Kd.R_drew HO256.out)
                have n8_ := Aside0.mk (Kd.R_drew HO260.out)
                have n9_ := Aside0.mk (blk_drew BK222.out)
                have n10_ := Aside0.mk (blk_drew BK250.out)
                have n11_ := Aside0.mk (below_drew1 HB.out)
                clear HO226
                clear HO229
                clear HO236
                clear HO239
                clear HO242
                clear HO245
                clear HO253
                clear HO256
                clear HO260
                clear BK222
                clear BK250
                clear HB
                have HO226 := n0_
                have HO229 := n1_
                have HO236 := n2_
                have HO239 := n3_
                have HO242 := n4_
                have HO245 := n5_
                have HO253 := n6_
                have HO256 := n7_
                have HO260 := n8_
                have BK222 := n9_
                have BK250 := n10_
                have HB := n11_
                clear n0_ n1_ n2_ n3_ n4_ n5_ n6_ n7_ n8_ n9_ n10_ n11_
                refine start_ (n := 5) (S := fun w' => w'.cell? ⟨gb250, 0, none⟩ = some (.slice Ao51 t243.length co51) ∧ w'.cell? ⟨gb250, 1, none⟩ = some (.int .i64 t246) ∧ w'.cell? ⟨gb250, 2, none⟩ = some (.int .i64 t247) ∧ w'.cell? ⟨gb250, 3, none⟩ = some (.int .i64 t248) ∧ w'.cell? ⟨gb250, 4, none⟩ = some (.int .i64 t249) ∧ w'.cell? ⟨gb222, 0, none⟩ = some (.slice A1_0 l1_0.length c1_0) ∧ w'.cell? ⟨gb222, 1, none⟩ = some (.int .i64 a1_1) ∧ w'.cell? ⟨gb222, 2, none⟩ = some (.int .i64 a1_2) ∧ w'.cell? ⟨gb222, 3, none⟩ = some (.int .i64 a1_3) ∧ w'.cell? ⟨gb222, 4, none⟩ = some (.int .i64 a1_4)) (ds := []) #[false, false, false, false, false] (by kernel_rfl) rfl rfl ⟨(blk_cell BK250.out 0).trans rfl, (blk_cell BK250.out 1).trans rfl, (blk_cell BK250.out 2).trans rfl, (blk_cell BK250.out 3).trans rfl, (blk_cell BK250.out 4).trans rfl, (blk_cell BK222.out 0).trans rfl, (blk_cell BK222.out 1).trans rfl, (blk_cell BK222.out 2).trans rfl, (blk_cell BK222.out 3).trans rfl, (blk_cell BK222.out 4).trans rfl⟩ (fun hHeld => ?_)
                generalize w61.drew = w63 at HO226 HO229 HO236 HO239 HO242 HO245 HO253 HO256 HO260 BK222 BK250 HB hHeld ⊢
                refine take_ (i := 0) (N := some 54) (v := ?_) (a' := ?_) #[true, false, false, false, false] rfl rfl (by kernel_rfl) (fun _ _ _ h => h) (Or.inl ⟨by rfl, ?_⟩) hHeld ?_ ?_
                rotate_left
                · rintro w' ⟨s0, s1, s2, s3, s4, s5, s6, s7, s8, s9⟩
                  go_simp
                  with_reducible rfl
                rotate_left
                · simp only [Act.put, List.setIfInBounds_toArray, List.set_cons_zero, List.set_cons_succ, i64_w, i32_w]
                  rfl
                refine take_ (i := 1) (N := some 55) (v := ?_) (a' := ?_) #[true, true, false, false, false] rfl rfl (by kernel_rfl) (fun _ _ _ h => h) (Or.inl ⟨by rfl, ?_⟩) hHeld ?_ ?_
                rotate_left
                · rintro w' ⟨s0, s1, s2, s3, s4, s5, s6, s7, s8, s9⟩
                  go_simp
                  with_reducible rfl
                rotate_left
                · simp only [Act.put, List.setIfInBounds_toArray, List.set_cons_zero, List.set_cons_succ, i64_w, i32_w]
                  rfl
                refine one_ (i := 2) (N := some 56) #[true, true, true, false, false] rfl rfl (by kernel_rfl) (by decide) (fun K hK => ?_)
                refine goes_ Try.func18 (by kernel_rfl) rfl #[.agg #[.slice A1_0 l1_0.length c1_0, .int .i64 a1_1, .int .i64 a1_2, .int .i64 a1_3, .int .i64 a1_4]] (by rfl) rfl rfl (by (try simp only [List.map_toArray, List.map_cons, List.map_nil]); first | done | rfl | (simp only [List.length_drop, List.length_take]; rfl)) ?_
                with_reducible refine (laws_toScan.calls k _ _ l1_0 a1_1 a1_2 a1_3 a1_4 t262 t265 t266 t267 t268 _ ?side1 ?side2 A26.out).mono ?_
                (case side1 => repeat (first | exact (Kd.C_below HR1_0.out HB.out) | (with_reducible refine Kd.C_alloc ?_ _) | (with_reducible refine Kd.C_drewN ?_ _) | (with_reducible refine Kd.C_drew ?_)))
                (case side2 => exact HC1_0.out)
                rintro e w64 ⟨v263, rfl, ho0, hb⟩
                refine ⟨_, rfl, ?_⟩
                have n0_ := Aside0.mk (Kd.R_elder' (by (with_reducible repeat (first | apply Kd.R_alloc | apply Kd.R_drewN | apply Kd.R_drew)); exact HO226.out) (Kd.R_base ho0) hb)
                have n1_ := Aside0.mk (Kd.R_elder' (by (with_reducible repeat (first | apply Kd.R_alloc | apply Kd.R_drewN | apply Kd.R_drew)); exact HO229.out) (Kd.R_base ho0) hb)
                have n2_ := Aside0.mk (Kd.R_elder' (by (with_reducible repeat (first | apply Kd.R_alloc | apply Kd.R_drewN | apply Kd.R_drew)); exact HO236.out) (Kd.R_base ho0) hb)
                have n3_ := Aside0.mk (Kd.R_elder' (by (with_reducible repeat (first | apply Kd.R_alloc | apply Kd.R_drewN | apply Kd.R_drew)); exact HO239.out) (Kd.R_base ho0) hb)
                have n4_ := Aside0.mk (Kd.R_elder' (by (with_reducible repeat (first | apply Kd.R_alloc | apply Kd.R_drewN | apply Kd.R_drew)); exact HO242.out) (Kd.R_base ho0) hb)
                have n5_ := Aside0.mk (Kd.R_elder' (by (with_reducible repeat (first | apply Kd.R_alloc | apply Kd.R_drewN | apply Kd.R_drew)); exact HO245.out) (Kd.R_base ho0) hb)
                have n6_ := Aside0.mk (Kd.R_elder' (by (with_reducible repeat (first | apply Kd.R_alloc | apply Kd.R_drewN | apply Kd.R_drew)); exact HO253.out) (Kd.R_base ho0) hb)
                have n7_ := Aside0.mk (Kd.R_elder' (by (with_reducible repeat (first | apply Kd.R_alloc | apply Kd.R_drewN | apply Kd.R_drew)); exact HO256.out) (Kd.R_base ho0) hb)
                have n8_ := Aside0.mk (Kd.R_elder' (by (with_reducible repeat (first | apply Kd.R_alloc | apply Kd.R_drewN | apply Kd.R_drew)); exact HO260.out) (Kd.R_base ho0) hb)
                have n9_ := Aside0.mk (Kd.R_lower (Kd.R_new' (Kd.R_new' (Kd.R_new' (Kd.R_new' (Kd.R_new' (Kd.R_new' (Kd.R_new' (Kd.R_new' (Kd.R_new' ho0 (Kd.R_lt (by (with_reducible repeat (first | apply Kd.R_alloc | apply Kd.R_drewN | apply Kd.R_drew)); exact HO226.out))) (Kd.R_lt (by (with_reducible repeat (first | apply Kd.R_alloc | apply Kd.R_drewN | apply Kd.R_drew)); exact HO229.out))) (Kd.R_lt (by (with_reducible repeat (first | apply Kd.R_alloc | apply Kd.R_drewN | apply Kd.R_drew)); exact HO236.out))) (Kd.R_lt (by (with_reducible repeat (first | apply Kd.R_alloc | apply Kd.R_drewN | apply Kd.R_drew)); exact HO239.out))) (Kd.R_lt (by (with_reducible repeat (first | apply Kd.R_alloc | apply Kd.R_drewN | apply Kd.R_drew)); exact HO242.out))) (Kd.R_lt (by (with_reducible repeat (first | apply Kd.R_alloc | apply Kd.R_drewN | apply Kd.R_drew)); exact HO245.out))) (Kd.R_lt (by (with_reducible repeat (first | apply Kd.R_alloc | apply Kd.R_drewN | apply Kd.R_drew)); exact HO253.out))) (Kd.R_lt (by (with_reducible repeat (first | apply Kd.R_alloc | apply Kd.R_drewN | apply Kd.R_drew)); exact HO256.out))) (Kd.R_lt (by (with_reducible repeat (first | apply Kd.R_alloc | apply Kd.R_drewN | apply Kd.R_drew)); exact HO260.out))) (below_size (by repeat (first | (with_reducible first | exact HB.out | apply below_alloc | apply pw_below_drewN | apply below_drew1 | refine below_set ?_ GE222.out | refine below_set ?_ GE250.out) | exact HB.out))))
                have n10_ := Aside0.mk (blk_below (g := gb222) (o := .cells #[.slice A1_0 l1_0.length c1_0, .int .i64 a1_1, .int .i64 a1_2, .int .i64 a1_3, .int .i64 a1_4] 24 (0, 0)) (by (with_reducible repeat (first | refine blk_drewN ?_ _ | refine blk_drew ?_ | refine blk_alloc ?_ _)); exact BK222.out) hb)
                have n11_ := Aside0.mk (blk_below (g := gb250) (o := .cells #[.slice Ao51 t243.length co51, .int .i64 t246, .int .i64 t247, .int .i64 t248, .int .i64 t249] 28 (0, 0)) (by (with_reducible repeat (first | refine blk_drewN ?_ _ | refine blk_drew ?_ | refine blk_alloc ?_ _)); exact BK250.out) hb)
                have n12_ := Aside0.mk (below_step (by repeat (first | (with_reducible first | exact HB.out | apply below_alloc | apply pw_below_drewN | apply below_drew1 | refine below_set ?_ GE222.out | refine below_set ?_ GE250.out) | exact HB.out)) hb)
                clear HO226
                clear HO229
                clear HO236
                clear HO239
                clear HO242
                clear HO245
                clear HO253
                clear HO256
                clear HO260
                clear BK222
                clear BK250
                clear HB
                have HO226 := n0_
                have HO229 := n1_
                have HO236 := n2_
                have HO239 := n3_
                have HO242 := n4_
                have HO245 := n5_
                have HO253 := n6_
                have HO256 := n7_
                have HO260 := n8_
                have HO264 := n9_
                have BK222 := n10_
                have BK250 := n11_
                have HB := n12_
                clear n0_ n1_ n2_ n3_ n4_ n5_ n6_ n7_ n8_ n9_ n10_ n11_ n12_
                (try clear hb)
                (try clear hb2)
                (try clear hk)
                (try clear hi)
                (try clear ho0)
                obtain ⟨Ao65, co65, eo65⟩ := Kd.R_slice HO264.out
                (first | subst eo65 | (injection eo65 with f1_ f2_ f3_; have f4_ := f1_.symm; have f5_ := f3_.symm; clear f1_ f2_ f3_; subst f4_; subst f5_))
                refine hK.out _ _ ⟨(blk_cell BK250.out 0).trans rfl, (blk_cell BK250.out 1).trans rfl, (blk_cell BK250.out 2).trans rfl, (blk_cell BK250.out 3).trans rfl, (blk_cell BK250.out 4).trans rfl, (blk_cell BK222.out 0).trans rfl, (blk_cell BK222.out 1).trans rfl, (blk_cell BK222.out 2).trans rfl, (blk_cell BK222.out 3).trans rfl, (blk_cell BK222.out 4).trans rfl⟩ (fun hHeld => ?_)
                clear hK K
                refine norm_ (a' := ?_) ?_ ?_
                rotate_left
                · show Act.put _ (some 56) _ = _
                  simp only [Act.put, List.setIfInBounds_toArray, List.set_cons_zero, List.set_cons_succ, i64_w, i32_w]
                  rfl
                refine one_ (i := 3) (N := some 57) #[true, true, true, true, false] rfl rfl (by kernel_rfl) (by decide) (fun K hK => ?_)
                refine goes_ Try.func21 (by kernel_rfl) rfl #[.agg #[.slice Ao51 t243.length co51, .int .i64 t246, .int .i64 t247, .int .i64 t248, .int .i64 t249], .agg #[.slice Ao65 t262.length co65, .int .i64 t265, .int .i64 t266, .int .i64 t267, .int .i64 t268]] (by rfl) rfl rfl (by (try simp only [List.map_toArray, List.map_cons, List.map_nil]); first | done | rfl | (simp only [List.length_drop, List.length_take]; rfl)) ?_
                with_reducible refine (laws_eqScan.calls k _ _ t243 t246 t247 t248 t249 _ _ t262 t265 t266 t267 t268 true _ ?side1 ?side2 ?side3 ?side4 A27.out).mono ?_
                (case side1 => repeat (first | exact (Kd.R_reads' HO245.out).2.2 | (with_reducible refine Kd.C_alloc ?_ _) | (with_reducible refine Kd.C_drewN ?_ _) | (with_reducible refine Kd.C_drew ?_)))
                (case side2 => exact (Kd.R_reads' HO245.out).2.1)
                (case side3 => repeat (first | exact (Kd.R_reads' HO264.out).2.2 | (with_reducible refine Kd.C_alloc ?_ _) | (with_reducible refine Kd.C_drewN ?_ _) | (with_reducible refine Kd.C_drew ?_)))
                (case side4 => exact (Kd.R_reads' HO264.out).2.1)
                rintro e w66 ⟨rfl, hb⟩
                refine ⟨_, rfl, ?_⟩
                have n0_ := Aside0.mk (Kd.R_below (by (with_reducible repeat (first | apply Kd.R_alloc | apply Kd.R_drewN | apply Kd.R_drew)); exact HO226.out) hb)
                have n1_ := Aside0.mk (Kd.R_below (by (with_reducible repeat (first | apply Kd.R_alloc | apply Kd.R_drewN | apply Kd.R_drew)); exact HO229.out) hb)
                have n2_ := Aside0.mk (Kd.R_below (by (with_reducible repeat (first | apply Kd.R_alloc | apply Kd.R_drewN | apply Kd.R_drew)); exact HO236.out) hb)
                have n3_ := Aside0.mk (Kd.R_below (by (with_reducible repeat (first | apply Kd.R_alloc | apply Kd.R_drewN | apply Kd.R_drew)); exact HO239.out) hb)
                have n4_ := Aside0.mk (Kd.R_below (by (with_reducible repeat (first | apply Kd.R_alloc | apply Kd.R_drewN | apply Kd.R_drew)); exact HO242.out) hb)
                have n5_ := Aside0.mk (Kd.R_below (by (with_reducible repeat (first | apply Kd.R_alloc | apply Kd.R_drewN | apply Kd.R_drew)); exact HO245.out) hb)
                have n6_ := Aside0.mk (Kd.R_below (by (with_reducible repeat (first | apply Kd.R_alloc | apply Kd.R_drewN | apply Kd.R_drew)); exact HO253.out) hb)
                have n7_ := Aside0.mk (Kd.R_below (by (with_reducible repeat (first | apply Kd.R_alloc | apply Kd.R_drewN | apply Kd.R_drew)); exact HO256.out) hb)
                have n8_ := Aside0.mk (Kd.R_below (by (with_reducible repeat (first | apply Kd.R_alloc | apply Kd.R_drewN | apply Kd.R_drew)); exact HO260.out) hb)
                have n9_ := Aside0.mk (Kd.R_below (by (with_reducible repeat (first | apply Kd.R_alloc | apply Kd.R_drewN | apply Kd.R_drew)); exact HO264.out) hb)
                have n10_ := Aside0.mk (blk_below (g := gb222) (o := .cells #[.slice A1_0 l1_0.length c1_0, .int .i64 a1_1, .int .i64 a1_2, .int .i64 a1_3, .int .i64 a1_4] 24 (0, 0)) (by (with_reducible repeat (first | refine blk_drewN ?_ _ | refine blk_drew ?_ | refine blk_alloc ?_ _)); exact BK222.out) hb)
                have n11_ := Aside0.mk (blk_below (g := gb250) (o := .cells #[.slice Ao51 t243.length co51, .int .i64 t246, .int .i64 t247, .int .i64 t248, .int .i64 t249] 28 (0, 0)) (by (with_reducible repeat (first | refine blk_drewN ?_ _ | refine blk_drew ?_ | refine blk_alloc ?_ _)); exact BK250.out) hb)
                have n12_ := Aside0.mk (below_step (by repeat (first | (with_reducible first | exact HB.out | apply below_alloc | apply pw_below_drewN | apply below_drew1 | refine below_set ?_ GE222.out | refine below_set ?_ GE250.out) | exact HB.out)) hb)
                clear HO226
                clear HO229
                clear HO236
                clear HO239
                clear HO242
                clear HO245
                clear HO253
                clear HO256
                clear HO260
                clear HO264
                clear BK222
                clear BK250
                clear HB
                have HO226 := n0_
                have HO229 := n1_
                have HO236 := n2_
                have HO239 := n3_
                have HO242 := n4_
                have HO245 := n5_
                have HO253 := n6_
                have HO256 := n7_
                have HO260 := n8_
                have HO264 := n9_
                have BK222 := n10_
                have BK250 := n11_
                have HB := n12_
                clear n0_ n1_ n2_ n3_ n4_ n5_ n6_ n7_ n8_ n9_ n10_ n11_ n12_
                (try clear hb)
                (try clear hb2)
                (try clear hk)
                (try clear hi)
                refine hK.out _ _ ⟨(blk_cell BK250.out 0).trans rfl, (blk_cell BK250.out 1).trans rfl, (blk_cell BK250.out 2).trans rfl, (blk_cell BK250.out 3).trans rfl, (blk_cell BK250.out 4).trans rfl, (blk_cell BK222.out 0).trans rfl, (blk_cell BK222.out 1).trans rfl, (blk_cell BK222.out 2).trans rfl, (blk_cell BK222.out 3).trans rfl, (blk_cell BK222.out 4).trans rfl⟩ (fun hHeld => ?_)
                clear hK K
                refine norm_ (a' := ?_) ?_ ?_
                rotate_left
                · show Act.put _ (some 57) _ = _
                  simp only [Act.put, List.setIfInBounds_toArray, List.set_cons_zero, List.set_cons_succ, i64_w, i32_w]
                  rfl
                refine pure_ (i := 4) (N := some 58) (v := ?_) (a' := ?_) #[true, true, true, true, true] rfl rfl (by kernel_rfl) (fun _ _ _ h => h) (Or.inl ⟨by rfl, ?_⟩) ?_ ?_
                rotate_left
                · intro w'
                  go_simp
                  with_reducible rfl
                rotate_left
                · simp only [Act.put, List.setIfInBounds_toArray, List.set_cons_zero, List.set_cons_succ, i64_w, i32_w]
                  rfl
                refine done_ (by kernel_rfl) ?_
                go_upto_region 26 with (first | ((with_reducible refine gate_callee (f := 17) rfl ?_); refine goesL_ (some 61) rfl rfl Try.func17 (by kernel_rfl) rfl #[.slice A2 l2.length c2] rfl (by (try simp only [List.map_toArray, List.map_cons, List.map_nil]); first | done | rfl | (simp only [List.length_drop, List.length_take]; rfl)) ?_; (with_reducible refine (laws_toIntS.calls k _ _ l2 t270 _ ?side1 ?side2 A29.out).mono ?_); (case side1 => repeat (first | exact (Kd.C_below HR2.out HB.out) | (with_reducible refine Kd.C_alloc ?_ _) | (with_reducible refine Kd.C_drewN ?_ _) | (with_reducible refine Kd.C_drew ?_))); (case side2 => exact HC2.out); rintro e w67 ⟨v271, rfl, ho0, hb⟩; refine ⟨_, rfl, ?_⟩; have n0_ := Aside0.mk (Kd.R_elder' (by (with_reducible repeat (first | apply Kd.R_alloc | apply Kd.R_drewN | apply Kd.R_drew)); exact HO239.out) (Kd.R_base ho0) hb); have n1_ := Aside0.mk (Kd.R_elder' (by (with_reducible repeat (first | apply Kd.R_alloc | apply Kd.R_drewN | apply Kd.R_drew)); exact HO242.out) (Kd.R_base ho0) hb); have n2_ := Aside0.mk (Kd.R_elder' (by (with_reducible repeat (first | apply Kd.R_alloc | apply Kd.R_drewN | apply Kd.R_drew)); exact HO245.out) (Kd.R_base ho0) hb); have n3_ := Aside0.mk (Kd.R_elder' (by (with_reducible repeat (first | apply Kd.R_alloc | apply Kd.R_drewN | apply Kd.R_drew)); exact HO253.out) (Kd.R_base ho0) hb); have n4_ := Aside0.mk (Kd.R_elder' (by (with_reducible repeat (first | apply Kd.R_alloc | apply Kd.R_drewN | apply Kd.R_drew)); exact HO256.out) (Kd.R_base ho0) hb); have n5_ := Aside0.mk (Kd.R_lower (Kd.R_new' (Kd.R_new' (Kd.R_new' (Kd.R_new' (Kd.R_new' ho0 (Kd.R_lt (by (with_reducible repeat (first | apply Kd.R_alloc | apply Kd.R_drewN | apply Kd.R_drew)); exact HO239.out))) (Kd.R_lt (by (with_reducible repeat (first | apply Kd.R_alloc | apply Kd.R_drewN | apply Kd.R_drew)); exact HO242.out))) (Kd.R_lt (by (with_reducible repeat (first | apply Kd.R_alloc | apply Kd.R_drewN | apply Kd.R_drew)); exact HO245.out))) (Kd.R_lt (by (with_reducible repeat (first | apply Kd.R_alloc | apply Kd.R_drewN | apply Kd.R_drew)); exact HO253.out))) (Kd.R_lt (by (with_reducible repeat (first | apply Kd.R_alloc | apply Kd.R_drewN | apply Kd.R_drew)); exact HO256.out))) (below_size (by repeat (first | (with_reducible first | exact HB.out | apply below_alloc | apply pw_below_drewN | apply below_drew1 | refine below_set ?_ GE222.out | refine below_set ?_ GE250.out) | exact HB.out)))); have n6_ := Aside0.mk (blk_below (g := gb222) (o := .cells #[.slice A1_0 l1_0.length c1_0, .int .i64 a1_1, .int .i64 a1_2, .int .i64 a1_3, .int .i64 a1_4] 24 (0, 0)) (by (with_reducible repeat (first | refine blk_drewN ?_ _ | refine blk_drew ?_ | refine blk_alloc ?_ _)); exact BK222.out) hb); have n7_ := Aside0.mk (blk_below (g := gb250) (o := .cells #[.slice Ao51 t243.length co51, .int .i64 t246, .int .i64 t247, .int .i64 t248, .int .i64 t249] 28 (0, 0)) (by (with_reducible repeat (first | refine blk_drewN ?_ _ | refine blk_drew ?_ | refine blk_alloc ?_ _)); exact BK250.out) hb); have n8_ := Aside0.mk (below_step (by repeat (first | (with_reducible first | exact HB.out | apply below_alloc | apply pw_below_drewN | apply below_drew1 | refine below_set ?_ GE222.out | refine below_set ?_ GE250.out) | exact HB.out)) hb); clear HO239; clear HO242; clear HO245; clear HO253; clear HO256; clear BK222; clear BK250; clear HB; have HO239 := n0_; have HO242 := n1_; have HO245 := n2_; have HO253 := n3_; have HO256 := n4_; have HO272 := n5_; have BK222 := n6_; have BK250 := n7_; have HB := n8_; clear n0_ n1_ n2_ n3_ n4_ n5_ n6_ n7_ n8_; (try clear hb); (try clear hb2); (try clear hk); (try clear hi); (try clear ho0); obtain ⟨Ao68, co68, eo68⟩ := Kd.R_slice HO272.out; subst eo68) | ((with_reducible refine gate_callee (f := 20) rfl ?_); refine goesL_ (some 62) rfl rfl Try.func20 (by kernel_rfl) rfl #[.slice Ao57 t251.length co57, .slice Ao68 t270.length co68] rfl (by (try simp only [List.map_toArray, List.map_cons, List.map_nil]); first | done | rfl | (simp only [List.length_drop, List.length_take]; rfl)) ?_; (with_reducible refine (laws_eqIntS.calls k _ _ t251 _ _ t270 true _ ?side1 ?side2 ?side3 ?side4 A30.out).mono ?_); (case side1 => repeat (first | exact (Kd.R_reads' HO253.out).2.2 | (with_reducible refine Kd.C_alloc ?_ _) | (with_reducible refine Kd.C_drewN ?_ _) | (with_reducible refine Kd.C_drew ?_))); (case side2 => exact (Kd.R_reads' HO253.out).2.1); (case side3 => repeat (first | exact (Kd.R_reads' HO272.out).2.2 | (with_reducible refine Kd.C_alloc ?_ _) | (with_reducible refine Kd.C_drewN ?_ _) | (with_reducible refine Kd.C_drew ?_))); (case side4 => exact (Kd.R_reads' HO272.out).2.1); rintro e w' ⟨rfl, ⟨nd, rfl⟩⟩; refine ⟨_, rfl, ?_⟩) | ((with_reducible refine gate_callee (f := 22) rfl ?_); refine goesL_ (some 66) rfl rfl Try.func22 (by kernel_rfl) rfl #[.slice Ao56 t240.length co56, .int .i64 1] rfl (by (try simp only [List.map_toArray, List.map_cons, List.map_nil]); first | done | rfl | (simp only [List.length_drop, List.length_take]; rfl)) ?_; (with_reducible refine (laws_markIntS.calls k (fun k_ => some k_ = (.slice Ao56 t240.length co56 : Value).ownBlock) (.slice Ao56 t240.length co56) t240 1 t274 t275 w _ ?side1 ?side2 A32.out).mono ?_); (case side1 => repeat (first | (with_reducible first | exact HB.out | apply below_alloc | apply pw_below_drewN | apply below_drew1 | refine below_set ?_ GE222.out | refine below_set ?_ GE250.out) | exact HB.out)); (case side2 => exact Kd.R_tight rfl HO242.out); rintro e w69 ⟨rfl, hy0, hb, hkp⟩; refine ⟨_, rfl, ?_⟩; ((first | (with_reducible have hq_ := blk_kept (blk_drewN BK222.out _) hkp) | (with_reducible have hq_ := blk_kept BK222.out hkp)); have n0_ := Aside0.mk (hq_ (fun hs_ => (fun e_ => (Kd.R_ne HO242.out BK222.out (by decide)) e_) hs_)); clear hq_); have n1_ := Aside0.mk (Kd.R_mono (ok' := fun k_ => some k_ ≠ (.slice Ao56 t240.length co56 : Value).ownBlock ∧ some k_ ≠ (.slice Ao51 t243.length co51 : Value).ownBlock ∧ some k_ ≠ (.slice Ao57 t251.length co57 : Value).ownBlock ∧ some k_ ≠ (.slice Ao59 t254.length co59 : Value).ownBlock) (Kd.R_keptB (HO239.out) hkp (fun k_ hk_ hs_ => by simp only [ne_eq, hs_, not_true_eq_false, and_false, false_and] at hk_)) (fun k_ hk_ => by simp only [ne_eq, hk_, not_false_eq_true, and_self])); have n2_ := Aside0.mk (Kd.R_reok rfl hy0 (fun k_ e_ => HO242.out.1 k_ e_)); have n3_ := Aside0.mk (Kd.R_mono (ok' := fun k_ => some k_ ≠ (.slice Ao60 t237.length co60 : Value).ownBlock ∧ some k_ ≠ (.slice Ao56 t240.length co56 : Value).ownBlock ∧ some k_ ≠ (.slice Ao57 t251.length co57 : Value).ownBlock ∧ some k_ ≠ (.slice Ao59 t254.length co59 : Value).ownBlock) (Kd.R_keptB (HO245.out) hkp (fun k_ hk_ hs_ => by simp only [ne_eq, hs_, not_true_eq_false, and_false, false_and] at hk_)) (fun k_ hk_ => by simp only [ne_eq, hk_, not_false_eq_true, and_self])); ((first | (with_reducible have hq_ := blk_kept (blk_drewN BK250.out _) hkp) | (with_reducible have hq_ := blk_kept BK250.out hkp)); have n4_ := Aside0.mk (hq_ (fun hs_ => (fun e_ => (Kd.R_ne HO242.out BK250.out (by decide)) e_) hs_)); clear hq_); have n5_ := Aside0.mk (Kd.R_mono (ok' := fun k_ => some k_ ≠ (.slice Ao60 t237.length co60 : Value).ownBlock ∧ some k_ ≠ (.slice Ao56 t240.length co56 : Value).ownBlock ∧ some k_ ≠ (.slice Ao51 t243.length co51 : Value).ownBlock ∧ some k_ ≠ (.slice Ao59 t254.length co59 : Value).ownBlock) (Kd.R_keptB (HO253.out) hkp (fun k_ hk_ hs_ => by simp only [ne_eq, hs_, not_true_eq_false, and_false, false_and] at hk_)) (fun k_ hk_ => by simp only [ne_eq, hk_, not_false_eq_true, and_self])); have n6_ := Aside0.mk (Kd.R_mono (ok' := fun k_ => some k_ ≠ (.slice Ao60 t237.length co60 : Value).ownBlock ∧ some k_ ≠ (.slice Ao56 t240.length co56 : Value).ownBlock ∧ some k_ ≠ (.slice Ao51 t243.length co51 : Value).ownBlock ∧ some k_ ≠ (.slice Ao57 t251.length co57 : Value).ownBlock) (Kd.R_keptB (HO256.out) hkp (fun k_ hk_ hs_ => by simp only [ne_eq, hs_, not_true_eq_false, and_false, false_and] at hk_)) (fun k_ hk_ => by simp only [ne_eq, hk_, not_false_eq_true, and_self])); have n7_ := Aside0.mk (hb); clear BK222; clear HO239; clear HO242; clear HO245; clear BK250; clear HO253; clear HO256; clear HB; have BK222 := n0_; have HO239 := n1_; have HO242 := n2_; have HO245 := n3_; have BK250 := n4_; have HO253 := n5_; have HO256 := n6_; have HB := n7_; clear n0_ n1_ n2_ n3_ n4_ n5_ n6_ n7_; (try clear hb); (try clear hkp); (try clear hy0); have hcz70_0 : w69.cell? ⟨gb250, 0, none⟩ = some (.slice Ao51 t243.length co51) := (blk_cell BK250.out 0).trans rfl; have hcz70_1 : w69.cell? ⟨gb250, 1, none⟩ = some (.int .i64 t246) := (blk_cell BK250.out 1).trans rfl; have hcz70_2 : w69.cell? ⟨gb250, 2, none⟩ = some (.int .i64 t247) := (blk_cell BK250.out 2).trans rfl; have hcz70_3 : w69.cell? ⟨gb250, 3, none⟩ = some (.int .i64 t248) := (blk_cell BK250.out 3).trans rfl; have hcz70_4 : w69.cell? ⟨gb250, 4, none⟩ = some (.int .i64 t249) := (blk_cell BK250.out 4).trans rfl; have hfz70_0 := blk_frozen BK250.out 0; have hfz70_1 := blk_frozen BK250.out 1; have hfz70_2 := blk_frozen BK250.out 2; have hfz70_3 := blk_frozen BK250.out 3; have hfz70_4 := blk_frozen BK250.out 4) | ((with_reducible refine gate_callee (f := 23) rfl ?_); refine goesL_ (some 69) rfl rfl Try.func23 (by kernel_rfl) rfl #[.agg #[.slice Ao51 t243.length co51, .int .i64 t246, .int .i64 t247, .int .i64 t248, .int .i64 t249], .int .i64 t274] rfl (by (try simp only [List.map_toArray, List.map_cons, List.map_nil]); first | done | rfl | (simp only [List.length_drop, List.length_take]; rfl)) ?_; (with_reducible refine (laws_markScan.calls k (fun k_ => some k_ = (.slice Ao51 t243.length co51 : Value).ownBlock) (.slice Ao51 t243.length co51) t243 t246 t247 t248 t249 t274 t276 t277 w _ ?side1 ?side2 A33.out).mono ?_); (case side1 => repeat (first | (with_reducible first | exact HB.out | apply below_alloc | apply pw_below_drewN | apply below_drew1 | refine below_set ?_ GE222.out | refine below_set ?_ GE250.out) | exact HB.out)); (case side2 => exact Kd.R_tight rfl HO245.out); rintro e w71 ⟨rfl, hy0, hb, hkp⟩; refine ⟨_, rfl, ?_⟩; ((first | (with_reducible have hq_ := blk_kept (blk_drewN BK222.out _) hkp) | (with_reducible have hq_ := blk_kept BK222.out hkp)); have n0_ := Aside0.mk (hq_ (fun hs_ => (fun e_ => (Kd.R_ne HO245.out BK222.out (by decide)) e_) hs_)); clear hq_); have n1_ := Aside0.mk (Kd.R_mono (ok' := fun k_ => some k_ ≠ (.slice Ao51 t243.length co51 : Value).ownBlock ∧ some k_ ≠ (.slice Ao57 t251.length co57 : Value).ownBlock ∧ some k_ ≠ (.slice Ao59 t254.length co59 : Value).ownBlock) (Kd.R_keptB (HO239.out) hkp (fun k_ hk_ hs_ => by simp only [ne_eq, hs_, not_true_eq_false, and_false, false_and] at hk_)) (fun k_ hk_ => by simp only [ne_eq, hk_, not_false_eq_true, and_self])); have n2_ := Aside0.mk (Kd.R_reok rfl hy0 (fun k_ e_ => HO245.out.1 k_ e_)); ((first | (with_reducible have hq_ := blk_kept (blk_drewN BK250.out _) hkp) | (with_reducible have hq_ := blk_kept BK250.out hkp)); have n3_ := Aside0.mk (hq_ (fun hs_ => (fun e_ => (Kd.R_ne HO245.out BK250.out (by decide)) e_) hs_)); clear hq_); have n4_ := Aside0.mk (Kd.R_mono (ok' := fun k_ => some k_ ≠ (.slice Ao60 t237.length co60 : Value).ownBlock ∧ some k_ ≠ (.slice Ao51 t243.length co51 : Value).ownBlock ∧ some k_ ≠ (.slice Ao59 t254.length co59 : Value).ownBlock) (Kd.R_keptB (HO253.out) hkp (fun k_ hk_ hs_ => by simp only [ne_eq, hs_, not_true_eq_false, and_false, false_and] at hk_)) (fun k_ hk_ => by simp only [ne_eq, hk_, not_false_eq_true, and_self])); have n5_ := Aside0.mk (Kd.R_mono (ok' := fun k_ => some k_ ≠ (.slice Ao60 t237.length co60 : Value).ownBlock ∧ some k_ ≠ (.slice Ao51 t243.length co51 : Value).ownBlock ∧ some k_ ≠ (.slice Ao57 t251.length co57 : Value).ownBlock) (Kd.R_keptB (HO256.out) hkp (fun k_ hk_ hs_ => by simp only [ne_eq, hs_, not_true_eq_false, and_false, false_and] at hk_)) (fun k_ hk_ => by simp only [ne_eq, hk_, not_false_eq_true, and_self])); have n6_ := Aside0.mk (hb); clear BK222; clear HO239; clear HO245; clear BK250; clear HO253; clear HO256; clear HB; have BK222 := n0_; have HO239 := n1_; have HO245 := n2_; have BK250 := n3_; have HO253 := n4_; have HO256 := n5_; have HB := n6_; clear n0_ n1_ n2_ n3_ n4_ n5_ n6_; (try clear hb); (try clear hkp); (try clear hy0)) | ((with_reducible refine gate_callee (f := 22) rfl ?_); refine goesL_ (some 72) rfl rfl Try.func22 (by kernel_rfl) rfl #[.slice Ao57 t251.length co57, .int .i64 t276] rfl (by (try simp only [List.map_toArray, List.map_cons, List.map_nil]); first | done | rfl | (simp only [List.length_drop, List.length_take]; rfl)) ?_; (with_reducible refine (laws_markIntS.calls k (fun k_ => some k_ = (.slice Ao57 t251.length co57 : Value).ownBlock) (.slice Ao57 t251.length co57) t251 t276 t278 t279 w _ ?side1 ?side2 A34.out).mono ?_); (case side1 => repeat (first | (with_reducible first | exact HB.out | apply below_alloc | apply pw_below_drewN | apply below_drew1 | refine below_set ?_ GE222.out | refine below_set ?_ GE250.out) | exact HB.out)); (case side2 => exact Kd.R_tight rfl HO253.out); rintro e w72 ⟨rfl, hy0, hb, hkp⟩; refine ⟨_, rfl, ?_⟩; ((first | (with_reducible have hq_ := blk_kept (blk_drewN BK222.out _) hkp) | (with_reducible have hq_ := blk_kept BK222.out hkp)); have n0_ := Aside0.mk (hq_ (fun hs_ => (fun e_ => (Kd.R_ne HO253.out BK222.out (by decide)) e_) hs_)); clear hq_); have n1_ := Aside0.mk (Kd.R_mono (ok' := fun k_ => some k_ ≠ (.slice Ao51 t243.length co51 : Value).ownBlock ∧ some k_ ≠ (.slice Ao57 t251.length co57 : Value).ownBlock ∧ some k_ ≠ (.slice Ao59 t254.length co59 : Value).ownBlock) (Kd.R_keptB (HO239.out) hkp (fun k_ hk_ hs_ => by simp only [ne_eq, hs_, not_true_eq_false, and_false, false_and] at hk_)) (fun k_ hk_ => by simp only [ne_eq, hk_, not_false_eq_true, and_self])); have n2_ := Aside0.mk (Kd.R_mono (ok' := fun k_ => some k_ ≠ (.slice Ao60 t237.length co60 : Value).ownBlock ∧ some k_ ≠ (.slice Ao57 t251.length co57 : Value).ownBlock ∧ some k_ ≠ (.slice Ao59 t254.length co59 : Value).ownBlock) (Kd.R_keptB (HO245.out) hkp (fun k_ hk_ hs_ => by simp only [ne_eq, hs_, not_true_eq_false, and_false, false_and] at hk_)) (fun k_ hk_ => by simp only [ne_eq, hk_, not_false_eq_true, and_self])); ((first | (with_reducible have hq_ := blk_kept (blk_drewN BK250.out _) hkp) | (with_reducible have hq_ := blk_kept BK250.out hkp)); have n3_ := Aside0.mk (hq_ (fun hs_ => (fun e_ => (Kd.R_ne HO253.out BK250.out (by decide)) e_) hs_)); clear hq_); have n4_ := Aside0.mk (Kd.R_reok rfl hy0 (fun k_ e_ => HO253.out.1 k_ e_)); have n5_ := Aside0.mk (Kd.R_mono (ok' := fun k_ => some k_ ≠ (.slice Ao60 t237.length co60 : Value).ownBlock ∧ some k_ ≠ (.slice Ao51 t243.length co51 : Value).ownBlock ∧ some k_ ≠ (.slice Ao57 t251.length co57 : Value).ownBlock) (Kd.R_keptB (HO256.out) hkp (fun k_ hk_ hs_ => by simp only [ne_eq, hs_, not_true_eq_false, and_false, false_and] at hk_)) (fun k_ hk_ => by simp only [ne_eq, hk_, not_false_eq_true, and_self])); have n6_ := Aside0.mk (hb); clear BK222; clear HO239; clear HO245; clear BK250; clear HO253; clear HO256; clear HB; have BK222 := n0_; have HO239 := n1_; have HO245 := n2_; have BK250 := n3_; have HO253 := n4_; have HO256 := n5_; have HB := n6_; clear n0_ n1_ n2_ n3_ n4_ n5_ n6_; (try clear hb); (try clear hkp); (try clear hy0)))
                (try simp only [Act.put, List.setIfInBounds_toArray, List.set_cons_zero, List.set_cons_succ])
                go_cut [80] (fun v80 wc => ∃ (kq : Nat) (x80_34 : Bool), v80 = .bool x80_34 ∧ Aside0 (laws_FnExactPutFirst.j0 kq l0 l2 t237 t254 x80_34 l1_0 a1_1 a1_2 a1_3 a1_4 = some r) ∧ Aside0 (kq ≤ k) ∧ Aside0 (Kd.R (Kd.int .i64) 3 wc w.heap.size (fun k_ => some k_ ≠ ((.slice Ao59 t254.length co59) : Value).ownBlock ∧ some k_ ≠ ((.slice Ao51 t243.length co51) : Value).ownBlock) (.slice Ao60 t237.length co60) t237) ∧ Aside0 (Kd.R (Kd.int .i64) 3 wc w.heap.size (fun k_ => some k_ ≠ ((.slice Ao60 t237.length co60) : Value).ownBlock ∧ some k_ ≠ ((.slice Ao51 t243.length co51) : Value).ownBlock) (.slice Ao59 t254.length co59) t254) ∧ Aside0 (Kd.R (Kd.int .i64) 3 wc w.heap.size (fun k_ => some k_ ≠ ((.slice Ao60 t237.length co60) : Value).ownBlock ∧ some k_ ≠ ((.slice Ao59 t254.length co59) : Value).ownBlock) (.slice Ao51 t243.length co51) t277) ∧ Aside0 (wc.heap[gb222]? = some (.cells #[(.slice A1_0 l1_0.length c1_0), .int .i64 a1_1, .int .i64 a1_2, .int .i64 a1_3, .int .i64 a1_4] 24 (0, 0))) ∧ Aside0 (wc.heap[gb250]? = some (.cells #[(.slice Ao51 t243.length co51), .int .i64 t246, .int .i64 t247, .int .i64 t248, .int .i64 t249] 28 (0, 0))) ∧ Aside0 (Below w.heap.size w wc))
                case first =>
                  have H := HC35.out
                  clear HC35
                  by_cases c73 : t278 < 0
                  · rw [if_pos c73] at H
                    have c73b0 : decide (t278 < 0) = true := decide_eq_true c73
                    clear c73
                    (first | rw [c73b0] | (simp only [i64_w, i32_w]; rw [c73b0]) | skip)
                    have H' := Aside0.mk H
                    clear H
                    go_wp2
                    go_meet
                    case rel => exact ⟨_, (true), (by first | rfl | (simp; done) | (simp [*]; done)), H', ⟨by first | omega | exact Nat.le_refl _⟩, ⟨by (with_reducible repeat (first | apply Kd.R_alloc | apply Kd.R_drewN | apply Kd.R_drew)); exact Kd.R_mono HO239.out (fun _ hk => by simp only [ne_eq, hk, not_false_eq_true, and_self])⟩, ⟨by (with_reducible repeat (first | apply Kd.R_alloc | apply Kd.R_drewN | apply Kd.R_drew)); exact Kd.R_mono HO256.out (fun _ hk => by simp only [ne_eq, hk, not_false_eq_true, and_self])⟩, ⟨by (with_reducible repeat (first | apply Kd.R_alloc | apply Kd.R_drewN | apply Kd.R_drew)); exact Kd.R_mono HO245.out (fun _ hk => by simp only [ne_eq, hk, not_false_eq_true, and_self])⟩, ⟨by (with_reducible repeat (first | refine blk_drewN ?_ _ | refine blk_drew ?_ | refine blk_alloc ?_ _)); exact BK222.out⟩, ⟨by (with_reducible repeat (first | refine blk_drewN ?_ _ | refine blk_drew ?_ | refine blk_alloc ?_ _)); exact BK250.out⟩, ⟨by repeat (first | (with_reducible first | exact HB.out | apply below_alloc | apply pw_below_drewN | apply below_drew1 | refine below_set ?_ GE222.out | refine below_set ?_ GE250.out) | exact HB.out)⟩⟩
                  · rw [if_neg c73] at H
                    have c73b0 : decide (t278 < 0) = false := decide_eq_false c73
                    clear c73
                    (first | rw [c73b0] | (simp only [i64_w, i32_w]; rw [c73b0]) | skip)
                    replace H := Option.bind_eq_some_iff.mp H
                    obtain ⟨t280, A740, H⟩ := H
                    replace H : (laws_FnExactPutFirst.j0 k l0 l2 t237 t254 (!t280) l1_0 a1_1 a1_2 a1_3 a1_4) = some r := H
                    have A74 := Aside0.mk A740
                    clear A740
                    have H' := Aside0.mk H
                    clear H
                    go_wp2_with (first | (go_at_call 20; (with_reducible refine (laws_eqIntS.calls k _ _ t254 _ _ t237 t280 _ ?side1 ?side2 ?side3 ?side4 A74.out).mono ?_); (case side1 => repeat (first | exact (Kd.R_reads' HO256.out).2.2 | (with_reducible refine Kd.C_alloc ?_ _) | (with_reducible refine Kd.C_drewN ?_ _) | (with_reducible refine Kd.C_drew ?_))); (case side2 => exact (Kd.R_reads' HO256.out).2.1); (case side3 => repeat (first | exact (Kd.R_reads' HO239.out).2.2 | (with_reducible refine Kd.C_alloc ?_ _) | (with_reducible refine Kd.C_drewN ?_ _) | (with_reducible refine Kd.C_drew ?_))); (case side4 => exact (Kd.R_reads' HO239.out).2.1); rintro e w' ⟨rfl, ⟨nd, rfl⟩⟩))
                    go_meet
                    case rel => exact ⟨_, (!t280), (by first | rfl | (simp; done) | (simp [*]; done)), H', ⟨by first | omega | exact Nat.le_refl _⟩, ⟨by (with_reducible repeat (first | apply Kd.R_alloc | apply Kd.R_drewN | apply Kd.R_drew)); exact Kd.R_mono HO239.out (fun _ hk => by simp only [ne_eq, hk, not_false_eq_true, and_self])⟩, ⟨by (with_reducible repeat (first | apply Kd.R_alloc | apply Kd.R_drewN | apply Kd.R_drew)); exact Kd.R_mono HO256.out (fun _ hk => by simp only [ne_eq, hk, not_false_eq_true, and_self])⟩, ⟨by (with_reducible repeat (first | apply Kd.R_alloc | apply Kd.R_drewN | apply Kd.R_drew)); exact Kd.R_mono HO245.out (fun _ hk => by simp only [ne_eq, hk, not_false_eq_true, and_self])⟩, ⟨by (with_reducible repeat (first | refine blk_drewN ?_ _ | refine blk_drew ?_ | refine blk_alloc ?_ _)); exact BK222.out⟩, ⟨by (with_reducible repeat (first | refine blk_drewN ?_ _ | refine blk_drew ?_ | refine blk_alloc ?_ _)); exact BK250.out⟩, ⟨by repeat (first | (with_reducible first | exact HB.out | apply below_alloc | apply pw_below_drewN | apply below_drew1 | refine below_set ?_ GE222.out | refine below_set ?_ GE250.out) | exact HB.out)⟩⟩
                case rest =>
                  clear HC35
                  try clear c1
                  try clear c2
                  try clear p2
                  try clear c3
                  try clear c4
                  try clear c4b0
                  try clear c4b1
                  try clear c5
                  try clear c6
                  try clear c6b0
                  try clear c6b1
                  try clear c7
                  try clear c9
                  try clear c9b0
                  try clear c15
                  try clear c17
                  try clear c18
                  try clear c20
                  try clear c21
                  try clear c22
                  try clear c23
                  try clear c25
                  try clear c26
                  try clear c28
                  try clear c31
                  try clear c52
                  try clear c73
                  try clear c73b0
                  try clear hcz11_0
                  try clear hcz11_1
                  try clear hcz11_2
                  try clear hcz11_3
                  try clear hcz11_4
                  try clear hcz37_0
                  try clear hcz37_1
                  try clear hcz37_2
                  try clear hcz37_3
                  try clear hcz37_4
                  try clear hcz48_0
                  try clear hcz48_1
                  try clear hcz48_2
                  try clear hcz48_3
                  try clear hcz48_4
                  try clear hcz53_0
                  try clear hcz53_1
                  try clear hcz53_2
                  try clear hcz53_3
                  try clear hcz53_4
                  try clear hcz55_0
                  try clear hcz55_1
                  try clear hcz55_2
                  try clear hcz55_3
                  try clear hcz55_4
                  try clear hcz70_0
                  try clear hcz70_1
                  try clear hcz70_2
                  try clear hcz70_3
                  try clear hcz70_4
                  try clear hfz11_0
                  try clear hfz11_1
                  try clear hfz11_2
                  try clear hfz11_3
                  try clear hfz11_4
                  try clear hfz37_0
                  try clear hfz37_1
                  try clear hfz37_2
                  try clear hfz37_3
                  try clear hfz37_4
                  try clear hfz48_0
                  try clear hfz48_1
                  try clear hfz48_2
                  try clear hfz48_3
                  try clear hfz48_4
                  try clear hfz53_0
                  try clear hfz53_1
                  try clear hfz53_2
                  try clear hfz53_3
                  try clear hfz53_4
                  try clear hfz55_0
                  try clear hfz55_1
                  try clear hfz55_2
                  try clear hfz55_3
                  try clear hfz55_4
                  try clear hfz70_0
                  try clear hfz70_1
                  try clear hfz70_2
                  try clear hfz70_3
                  try clear hfz70_4
                  obtain ⟨kq, x80_34, rfl, HA, HJ34, HO_8, HO_12, HO_251000, BK222, BK250, HB⟩ := hcut
                  have hl251000_34 := (Kd.R_reads' HO_251000.out).1
                  rw [hl251000_34] at HO_251000
                  (try simp only [hl251000_34])
                  (try simp only [hl251000_34] at BK222)
                  (try simp only [hl251000_34] at BK250)
                  (try simp only [hl251000_34] at HO_8)
                  (try simp only [hl251000_34] at HO_12)
                  cases kq with
                  | zero => exact absurd HA.out (by simp [laws_FnExactPutFirst.j0])
                  | succ kj34 =>
                    have H := HA.out
                    clear HA
                    simp only [laws_FnExactPutFirst.j0] at H
                    by_cases c75 : x80_34 = true
                    · subst c75
                      have H1 : (some false) = some r := by rw [if_pos rfl] at H; exact H
                      clear H
                      have H := H1
                      clear H1
                      exact noArm H HTRUE_.out
                    · replace c75 := Bool.eq_false_iff.mpr c75
                      subst c75
                      have H1 : ((laws_markIntS.f kj34 t254 1).bind fun bt281 => ((laws_heldIntS.f kj34 bt281.2 1).bind fun t283 => (if t283 < 0 then (some false) else (if t283 = bt281.1 then ((laws_toIntS.f kj34 l0).bind fun t284 => ((laws_toScan.f kj34 l1_0 a1_1 a1_2 a1_3 a1_4).bind fun bt287 => ((laws_toIntS.f kj34 l2).bind fun t294 => ((impl_PutFirst.f kj34 t284 bt287.1 bt287.2.1 bt287.2.2.1 bt287.2.2.2.1 bt287.2.2.2.2 t294).bind fun t297 => ((laws_eqIntS.f kj34 t297 t237).bind fun t300 => (if t300 = true then ((laws_heldIntS.f kj34 bt281.2 1).bind fun t301 => (if t301 < 0 then (some false) else (if t301 = bt281.1 then (some true) else (some false)))) else (some false))))))) else (some false))))) = some r := by rw [if_neg (show ¬ (false = true) by decide)] at H; exact H
                      clear H
                      have H := H1
                      clear H1
                      replace H := Option.bind_eq_some_iff.mp H
                      obtain ⟨⟨t281, t282⟩, A760, H⟩ := H
                      replace H : ((laws_heldIntS.f kj34 t282 1).bind fun t283 => (if t283 < 0 then (some false) else (if t283 = t281 then ((laws_toIntS.f kj34 l0).bind fun t284 => ((laws_toScan.f kj34 l1_0 a1_1 a1_2 a1_3 a1_4).bind fun bt287 => ((laws_toIntS.f kj34 l2).bind fun t294 => ((impl_PutFirst.f kj34 t284 bt287.1 bt287.2.1 bt287.2.2.1 bt287.2.2.2.1 bt287.2.2.2.2 t294).bind fun t297 => ((laws_eqIntS.f kj34 t297 t237).bind fun t300 => (if t300 = true then ((laws_heldIntS.f kj34 t282 1).bind fun t301 => (if t301 < 0 then (some false) else (if t301 = t281 then (some true) else (some false)))) else (some false))))))) else (some false)))) = some r := H
                      have A76 := Aside0.mk A760
                      clear A760
                      replace H := Option.bind_eq_some_iff.mp H
                      obtain ⟨t283, A770, H⟩ := H
                      replace H : (if t283 < 0 then (some false) else (if t283 = t281 then ((laws_toIntS.f kj34 l0).bind fun t284 => ((laws_toScan.f kj34 l1_0 a1_1 a1_2 a1_3 a1_4).bind fun bt287 => ((laws_toIntS.f kj34 l2).bind fun t294 => ((impl_PutFirst.f kj34 t284 bt287.1 bt287.2.1 bt287.2.2.1 bt287.2.2.2.1 bt287.2.2.2.2 t294).bind fun t297 => ((laws_eqIntS.f kj34 t297 t237).bind fun t300 => (if t300 = true then ((laws_heldIntS.f kj34 t282 1).bind fun t301 => (if t301 < 0 then (some false) else (if t301 = t281 then (some true) else (some false)))) else (some false))))))) else (some false))) = some r := H
                      have A77 := Aside0.mk A770
                      clear A770
                      by_cases c78 : t283 < 0
                      · rw [if_pos c78] at H
                        have c78b0 : decide (t283 < 0) = true := decide_eq_true c78
                        clear c78
                        exact noArm H HTRUE_.out
                      · rw [if_neg c78] at H
                        have c78b0 : decide (t283 < 0) = false := decide_eq_false c78
                        clear c78
                        by_cases c79 : t283 = t281
                        · rw [if_pos c79] at H
                          have c79b0 : (t283 == t281) = true := beq_iff_eq.mpr c79
                          have c79b1 : (t283 != t281) = false := bne_eq_false_iff_eq.mpr c79
                          clear c79
                          replace H := Option.bind_eq_some_iff.mp H
                          obtain ⟨t284, A800, H⟩ := H
                          replace H : ((laws_toScan.f kj34 l1_0 a1_1 a1_2 a1_3 a1_4).bind fun bt287 => ((laws_toIntS.f kj34 l2).bind fun t294 => ((impl_PutFirst.f kj34 t284 bt287.1 bt287.2.1 bt287.2.2.1 bt287.2.2.2.1 bt287.2.2.2.2 t294).bind fun t297 => ((laws_eqIntS.f kj34 t297 t237).bind fun t300 => (if t300 = true then ((laws_heldIntS.f kj34 t282 1).bind fun t301 => (if t301 < 0 then (some false) else (if t301 = t281 then (some true) else (some false)))) else (some false)))))) = some r := H
                          have A80 := Aside0.mk A800
                          clear A800
                          replace H := Option.bind_eq_some_iff.mp H
                          obtain ⟨⟨t287, t290, t291, t292, t293⟩, A810, H⟩ := H
                          replace H : ((laws_toIntS.f kj34 l2).bind fun t294 => ((impl_PutFirst.f kj34 t284 t287 t290 t291 t292 t293 t294).bind fun t297 => ((laws_eqIntS.f kj34 t297 t237).bind fun t300 => (if t300 = true then ((laws_heldIntS.f kj34 t282 1).bind fun t301 => (if t301 < 0 then (some false) else (if t301 = t281 then (some true) else (some false)))) else (some false))))) = some r := H
                          have A81 := Aside0.mk A810
                          clear A810
                          replace H := Option.bind_eq_some_iff.mp H
                          obtain ⟨t294, A820, H⟩ := H
                          replace H : ((impl_PutFirst.f kj34 t284 t287 t290 t291 t292 t293 t294).bind fun t297 => ((laws_eqIntS.f kj34 t297 t237).bind fun t300 => (if t300 = true then ((laws_heldIntS.f kj34 t282 1).bind fun t301 => (if t301 < 0 then (some false) else (if t301 = t281 then (some true) else (some false)))) else (some false)))) = some r := H
                          have A82 := Aside0.mk A820
                          clear A820
                          replace H := Option.bind_eq_some_iff.mp H
                          obtain ⟨t297, A830, H⟩ := H
                          replace H : ((laws_eqIntS.f kj34 t297 t237).bind fun t300 => (if t300 = true then ((laws_heldIntS.f kj34 t282 1).bind fun t301 => (if t301 < 0 then (some false) else (if t301 = t281 then (some true) else (some false)))) else (some false))) = some r := H
                          have A83 := Aside0.mk A830
                          clear A830
                          replace H := Option.bind_eq_some_iff.mp H
                          obtain ⟨t300, A840, H⟩ := H
                          replace H : (if t300 = true then ((laws_heldIntS.f kj34 t282 1).bind fun t301 => (if t301 < 0 then (some false) else (if t301 = t281 then (some true) else (some false)))) else (some false)) = some r := H
                          have A84 := Aside0.mk A840
                          clear A840
                          by_cases c85 : t300 = true
                          · subst c85
                            have H1 : ((laws_heldIntS.f kj34 t282 1).bind fun t301 => (if t301 < 0 then (some false) else (if t301 = t281 then (some true) else (some false)))) = some r := by rw [if_pos rfl] at H; exact H
                            clear H
                            have H := H1
                            clear H1
                            replace H := Option.bind_eq_some_iff.mp H
                            obtain ⟨t301, A860, H⟩ := H
                            replace H : (if t301 < 0 then (some false) else (if t301 = t281 then (some true) else (some false))) = some r := H
                            have A86 := Aside0.mk A860
                            clear A860
                            by_cases c87 : t301 < 0
                            · rw [if_pos c87] at H
                              have c87b0 : decide (t301 < 0) = true := decide_eq_true c87
                              clear c87
                              exact noArm H HTRUE_.out
                            · rw [if_neg c87] at H
                              have c87b0 : decide (t301 < 0) = false := decide_eq_false c87
                              clear c87
                              by_cases c88 : t301 = t281
                              · rw [if_pos c88] at H
                                have c88b0 : (t301 == t281) = true := beq_iff_eq.mpr c88
                                have c88b1 : (t301 != t281) = false := bne_eq_false_iff_eq.mpr c88
                                clear c88
                                obtain rfl := Option.some.inj H
                                try go_wp2_with (first | ((with_reducible refine gate_callee (f := 22) rfl ?_); refine goesL_ (some 83) rfl rfl Try.func22 (by kernel_rfl) rfl #[.slice Ao59 t254.length co59, .int .i64 1] rfl (by (try simp only [List.map_toArray, List.map_cons, List.map_nil]); first | done | rfl | (simp only [List.length_drop, List.length_take]; rfl)) ?_; (with_reducible refine (laws_markIntS.calls kj34 (fun k_ => some k_ = (.slice Ao59 t254.length co59 : Value).ownBlock) (.slice Ao59 t254.length co59) t254 1 t281 t282 w _ ?side1 ?side2 A76.out).mono ?_); (case side1 => repeat (first | (with_reducible first | exact HB.out | apply below_alloc | apply pw_below_drewN | apply below_drew1 | refine below_set ?_ GE222.out | refine below_set ?_ GE250.out) | exact HB.out)); (case side2 => exact Kd.R_tight rfl HO_12.out); rintro e w89 ⟨rfl, hy0, hb, hkp⟩; refine ⟨_, rfl, ?_⟩; have n0_ := Aside0.mk (Kd.R_mono (ok' := fun k_ => some k_ ≠ (.slice Ao59 t254.length co59 : Value).ownBlock ∧ some k_ ≠ (.slice Ao51 t277.length co51 : Value).ownBlock) (Kd.R_keptB (HO_8.out) hkp (fun k_ hk_ hs_ => by simp only [ne_eq, hs_, not_true_eq_false, and_false, false_and] at hk_)) (fun k_ hk_ => by simp only [ne_eq, hk_, not_false_eq_true, and_self])); have n1_ := Aside0.mk (Kd.R_reok rfl hy0 (fun k_ e_ => HO_12.out.1 k_ e_)); have n2_ := Aside0.mk (Kd.R_mono (ok' := fun k_ => some k_ ≠ (.slice Ao60 t237.length co60 : Value).ownBlock ∧ some k_ ≠ (.slice Ao59 t254.length co59 : Value).ownBlock) (Kd.R_keptB (HO_251000.out) hkp (fun k_ hk_ hs_ => by simp only [ne_eq, hs_, not_true_eq_false, and_false, false_and] at hk_)) (fun k_ hk_ => by simp only [ne_eq, hk_, not_false_eq_true, and_self])); ((first | (with_reducible have hq_ := blk_kept (blk_drewN BK222.out _) hkp) | (with_reducible have hq_ := blk_kept BK222.out hkp)); have n3_ := Aside0.mk (hq_ (fun hs_ => (fun e_ => (Kd.R_ne HO_12.out BK222.out (by decide)) e_) hs_)); clear hq_); ((first | (with_reducible have hq_ := blk_kept (blk_drewN BK250.out _) hkp) | (with_reducible have hq_ := blk_kept BK250.out hkp)); have n4_ := Aside0.mk (hq_ (fun hs_ => (fun e_ => (Kd.R_ne HO_12.out BK250.out (by decide)) e_) hs_)); clear hq_); have n5_ := Aside0.mk (hb); clear HO_8; clear HO_12; clear HO_251000; clear BK222; clear BK250; clear HB; have HO_8 := n0_; have HO_12 := n1_; have HO_251000 := n2_; have BK222 := n3_; have BK250 := n4_; have HB := n5_; clear n0_ n1_ n2_ n3_ n4_ n5_; (try clear hb); (try clear hkp); (try clear hy0)) | ((with_reducible refine gate_callee (f := 24) rfl ?_); refine goesL_ (some 86) rfl rfl Try.func24 (by kernel_rfl) rfl #[.slice Ao59 t282.length co59, .int .i64 1] rfl (by (try simp only [List.map_toArray, List.map_cons, List.map_nil]); first | done | (rw [show t282.length = t254.length from (Kd.R_reads' HO_12.out).1.symm] <;> rfl) | rfl | (simp only [List.length_drop, List.length_take]; rfl)) ?_; (with_reducible refine (laws_heldIntS.calls kj34 _ _ t282 1 t283 _ ?side1 ?side2 A77.out).mono ?_); (case side1 => repeat (first | exact (Kd.R_reads' HO_12.out).2.2 | (with_reducible refine Kd.C_alloc ?_ _) | (with_reducible refine Kd.C_drewN ?_ _) | (with_reducible refine Kd.C_drew ?_))); (case side2 => rw [show t282.length = t254.length from (Kd.R_reads' HO_12.out).1.symm]; exact (Kd.R_reads' HO_12.out).2.1); rintro e w' ⟨rfl, ⟨nd, rfl⟩⟩; refine ⟨_, rfl, ?_⟩))
                                (try (rw [drewN_self w89]; generalize hq_ : World.drewN w89 _ = w89; have n0_ : Aside0 (Kd.R (Kd.int .i64) 3 w89 w.heap.size (fun k_ => some k_ ≠ (.slice Ao51 t277.length co51 : Value).ownBlock ∧ some k_ ≠ (.slice Ao60 t237.length co60 : Value).ownBlock) (.slice Ao59 t254.length co59) t282) := ⟨by rw [← hq_]; exact (by (with_reducible repeat (first | apply Kd.R_alloc | apply Kd.R_drewN | apply Kd.R_drew)); exact Kd.R_mono HO_12.out (fun _ hk => by simp only [ne_eq, hk, not_false_eq_true, and_self]))⟩; have n1_ : Aside0 (Kd.R (Kd.int .i64) 3 w89 w.heap.size (fun k_ => some k_ ≠ (.slice Ao59 t254.length co59 : Value).ownBlock ∧ some k_ ≠ (.slice Ao60 t237.length co60 : Value).ownBlock) (.slice Ao51 t277.length co51) t277) := ⟨by rw [← hq_]; exact (by (with_reducible repeat (first | apply Kd.R_alloc | apply Kd.R_drewN | apply Kd.R_drew)); exact Kd.R_mono HO_251000.out (fun _ hk => by simp only [ne_eq, hk, not_false_eq_true, and_self]))⟩; have n2_ : Aside0 (Kd.R (Kd.int .i64) 3 w89 w.heap.size (fun k_ => some k_ ≠ (.slice Ao59 t254.length co59 : Value).ownBlock ∧ some k_ ≠ (.slice Ao51 t277.length co51 : Value).ownBlock) (.slice Ao60 t237.length co60) t237) := ⟨by rw [← hq_]; exact (by (with_reducible repeat (first | apply Kd.R_alloc | apply Kd.R_drewN | apply Kd.R_drew)); exact HO_8.out)⟩; have n3_ : Aside0 (w89.heap[gb222]? = some (.cells #[.slice A1_0 l1_0.length c1_0, .int .i64 a1_1, .int .i64 a1_2, .int .i64 a1_3, .int .i64 a1_4] 24 (0, 0))) := ⟨by rw [← hq_]; exact (by (with_reducible repeat (first | refine blk_drewN ?_ _ | refine blk_drew ?_ | refine blk_alloc ?_ _)); exact BK222.out)⟩; have n4_ : Aside0 (w89.heap[gb250]? = some (.cells #[.slice Ao51 t277.length co51, .int .i64 t246, .int .i64 t247, .int .i64 t248, .int .i64 t249] 28 (0, 0))) := ⟨by rw [← hq_]; exact (by (with_reducible repeat (first | refine blk_drewN ?_ _ | refine blk_drew ?_ | refine blk_alloc ?_ _)); exact BK250.out)⟩; have n5_ : Aside0 (Below w.heap.size w w89) := ⟨by rw [← hq_]; exact (by repeat (first | (with_reducible first | exact HB.out | apply below_alloc | apply pw_below_drewN | apply below_drew1 | refine below_set ?_ GE222.out | refine below_set ?_ GE250.out) | exact HB.out))⟩; clear HO_12 HO_251000 HO_8 BK222 BK250 HB hq_; have HO_12 := n0_; have HO_251000 := n1_; have HO_8 := n2_; have BK222 := n3_; have BK250 := n4_; have HB := n5_; clear n0_ n1_ n2_ n3_ n4_ n5_))
                                have n0_ := Aside0.mk (Kd.R_drew HO_8.out)
                                have n1_ := Aside0.mk (Kd.R_drew HO_12.out)
                                have n2_ := Aside0.mk (Kd.R_drew HO_251000.out)
                                have n3_ := Aside0.mk (blk_drew BK222.out)
                                have n4_ := Aside0.mk (blk_drew BK250.out)
                                have n5_ := Aside0.mk (below_drew1 HB.out)
                                clear HO_8
                                clear HO_12
                                clear HO_251000
                                clear BK222
                                clear BK250
                                clear HB
                                have HO_8 := n0_
                                have HO_12 := n1_
                                have HO_251000 := n2_
                                have BK222 := n3_
                                have BK250 := n4_
                                have HB := n5_
                                clear n0_ n1_ n2_ n3_ n4_ n5_
                                refine start_ (n := 8) (S := fun w' => w'.cell? ⟨gb222, 0, none⟩ = some (.slice A1_0 l1_0.length c1_0) ∧ w'.cell? ⟨gb222, 1, none⟩ = some (.int .i64 a1_1) ∧ w'.cell? ⟨gb222, 2, none⟩ = some (.int .i64 a1_2) ∧ w'.cell? ⟨gb222, 3, none⟩ = some (.int .i64 a1_3) ∧ w'.cell? ⟨gb222, 4, none⟩ = some (.int .i64 a1_4)) (ds := []) #[false, false, false, false, false, false, false, false] (by kernel_rfl) rfl rfl ⟨(blk_cell BK222.out 0).trans rfl, (blk_cell BK222.out 1).trans rfl, (blk_cell BK222.out 2).trans rfl, (blk_cell BK222.out 3).trans rfl, (blk_cell BK222.out 4).trans rfl⟩ (fun hHeld => ?_); refine with_tabW laws_FnExactPutFirst.tab36 laws_FnExactPutFirst.bits36 (fun HT_ HW_ => ?_)
                                generalize w89.drew = w90 at HO_8 HO_12 HO_251000 BK222 BK250 HB hHeld ⊢
                                refine pure_ (i := 0) (N := some 92) (v := ?_) (a' := ?_) #[true, false, false, false, false, false, false, false] rfl rfl (any_of HT_.out (by kernel_rfl)) (fun _ _ _ h => h) (Or.inl ⟨by rfl, ?_⟩) ?_ ?_
                                rotate_left
                                · intro w'
                                  go_simp
                                  with_reducible rfl
                                rotate_left
                                · simp only [Act.put, List.setIfInBounds_toArray, List.set_cons_zero, List.set_cons_succ, i64_w, i32_w]
                                  rfl
                                refine pure_ (i := 4) (N := some 96) (v := ?_) (a' := ?_) #[true, false, false, false, true, false, false, false] rfl rfl (any_of HT_.out (by kernel_rfl)) (fun _ _ _ h => h) (Or.inl ⟨by rfl, ?_⟩) ?_ ?_
                                rotate_left
                                · intro w'
                                  go_simp
                                  with_reducible rfl
                                rotate_left
                                · simp only [Act.put, List.setIfInBounds_toArray, List.set_cons_zero, List.set_cons_succ, i64_w, i32_w]
                                  rfl
                                refine take_ (i := 2) (N := some 94) (v := ?_) (a' := ?_) #[true, false, true, false, true, false, false, false] rfl rfl (take_ofW HT_.out HW_.out (by kernel_rfl)) (fun _ _ _ h => h) (Or.inl ⟨by rfl, ?_⟩) hHeld ?_ ?_
                                rotate_left
                                · rintro w' ⟨s0, s1, s2, s3, s4⟩
                                  go_simp
                                  with_reducible rfl
                                rotate_left
                                · simp only [Act.put, List.setIfInBounds_toArray, List.set_cons_zero, List.set_cons_succ, i64_w, i32_w]
                                  rfl
                                refine one_ (i := 1) (N := some 93) #[true, true, true, false, true, false, false, false] rfl rfl (one_of HT_.out (by kernel_rfl)) (by decide) (fun K hK => ?_)
                                refine goes_ Try.func17 (by kernel_rfl) rfl #[.slice A0 l0.length c0] (by rfl) rfl rfl (by (try simp only [List.map_toArray, List.map_cons, List.map_nil]); first | done | rfl | (simp only [List.length_drop, List.length_take]; rfl)) ?_
                                with_reducible refine (laws_toIntS.calls kj34 _ _ l0 t284 _ ?side1 ?side2 A80.out).mono ?_
                                (case side1 => repeat (first | exact (Kd.C_below HR0.out HB.out) | (with_reducible refine Kd.C_alloc ?_ _) | (with_reducible refine Kd.C_drewN ?_ _) | (with_reducible refine Kd.C_drew ?_)))
                                (case side2 => exact HC0.out)
                                rintro e w91 ⟨v285, rfl, ho0, hb⟩
                                refine ⟨_, rfl, ?_⟩
                                have n0_ := Aside0.mk (Kd.R_elder' (by (with_reducible repeat (first | apply Kd.R_alloc | apply Kd.R_drewN | apply Kd.R_drew)); exact HO_8.out) (Kd.R_base ho0) hb)
                                have n1_ := Aside0.mk (Kd.R_elder' (by (with_reducible repeat (first | apply Kd.R_alloc | apply Kd.R_drewN | apply Kd.R_drew)); exact HO_12.out) (Kd.R_base ho0) hb)
                                have n2_ := Aside0.mk (Kd.R_elder' (by (with_reducible repeat (first | apply Kd.R_alloc | apply Kd.R_drewN | apply Kd.R_drew)); exact HO_251000.out) (Kd.R_base ho0) hb)
                                have n3_ := Aside0.mk (Kd.R_lower (Kd.R_new' (Kd.R_new' (Kd.R_new' ho0 (Kd.R_lt (by (with_reducible repeat (first | apply Kd.R_alloc | apply Kd.R_drewN | apply Kd.R_drew)); exact HO_8.out))) (Kd.R_lt (by (with_reducible repeat (first | apply Kd.R_alloc | apply Kd.R_drewN | apply Kd.R_drew)); exact HO_12.out))) (Kd.R_lt (by (with_reducible repeat (first | apply Kd.R_alloc | apply Kd.R_drewN | apply Kd.R_drew)); exact HO_251000.out))) (below_size (by repeat (first | (with_reducible first | exact HB.out | apply below_alloc | apply pw_below_drewN | apply below_drew1 | refine below_set ?_ GE222.out | refine below_set ?_ GE250.out) | exact HB.out))))
                                have n4_ := Aside0.mk (blk_below (g := gb222) (o := .cells #[.slice A1_0 l1_0.length c1_0, .int .i64 a1_1, .int .i64 a1_2, .int .i64 a1_3, .int .i64 a1_4] 24 (0, 0)) (by (with_reducible repeat (first | refine blk_drewN ?_ _ | refine blk_drew ?_ | refine blk_alloc ?_ _)); exact BK222.out) hb)
                                have n5_ := Aside0.mk (blk_below (g := gb250) (o := .cells #[.slice Ao51 t277.length co51, .int .i64 t246, .int .i64 t247, .int .i64 t248, .int .i64 t249] 28 (0, 0)) (by (with_reducible repeat (first | refine blk_drewN ?_ _ | refine blk_drew ?_ | refine blk_alloc ?_ _)); exact BK250.out) hb)
                                have n6_ := Aside0.mk (below_step (by repeat (first | (with_reducible first | exact HB.out | apply below_alloc | apply pw_below_drewN | apply below_drew1 | refine below_set ?_ GE222.out | refine below_set ?_ GE250.out) | exact HB.out)) hb)
                                clear HO_8
                                clear HO_12
                                clear HO_251000
                                clear BK222
                                clear BK250
                                clear HB
                                have HO_8 := n0_
                                have HO_12 := n1_
                                have HO_251000 := n2_
                                have HO286 := n3_
                                have BK222 := n4_
                                have BK250 := n5_
                                have HB := n6_
                                clear n0_ n1_ n2_ n3_ n4_ n5_ n6_
                                (try clear hb)
                                (try clear hb2)
                                (try clear hk)
                                (try clear hi)
                                (try clear ho0)
                                refine hK.out _ _ ⟨(blk_cell BK222.out 0).trans rfl, (blk_cell BK222.out 1).trans rfl, (blk_cell BK222.out 2).trans rfl, (blk_cell BK222.out 3).trans rfl, (blk_cell BK222.out 4).trans rfl⟩ (fun hHeld => ?_)
                                clear hK K
                                refine norm_ (a' := ?_) ?_ ?_
                                rotate_left
                                · show Act.put _ (some 93) _ = _
                                  simp only [Act.put, List.setIfInBounds_toArray, List.set_cons_zero, List.set_cons_succ, i64_w, i32_w]
                                  rfl
                                refine one_ (i := 3) (N := some 95) #[true, true, true, true, true, false, false, false] rfl rfl (one_of HT_.out (by kernel_rfl)) (by decide) (fun K hK => ?_)
                                refine goes_ Try.func18 (by kernel_rfl) rfl #[.agg #[.slice A1_0 l1_0.length c1_0, .int .i64 a1_1, .int .i64 a1_2, .int .i64 a1_3, .int .i64 a1_4]] (by rfl) rfl rfl (by (try simp only [List.map_toArray, List.map_cons, List.map_nil]); first | done | rfl | (simp only [List.length_drop, List.length_take]; rfl)) ?_
                                with_reducible refine (laws_toScan.calls kj34 _ _ l1_0 a1_1 a1_2 a1_3 a1_4 t287 t290 t291 t292 t293 _ ?side1 ?side2 A81.out).mono ?_
                                (case side1 => repeat (first | exact (Kd.C_below HR1_0.out HB.out) | (with_reducible refine Kd.C_alloc ?_ _) | (with_reducible refine Kd.C_drewN ?_ _) | (with_reducible refine Kd.C_drew ?_)))
                                (case side2 => exact HC1_0.out)
                                rintro e w92 ⟨v288, rfl, ho0, hb⟩
                                refine ⟨_, rfl, ?_⟩
                                have n0_ := Aside0.mk (Kd.R_elder' (by (with_reducible repeat (first | apply Kd.R_alloc | apply Kd.R_drewN | apply Kd.R_drew)); exact HO_8.out) (Kd.R_base ho0) hb)
                                have n1_ := Aside0.mk (Kd.R_elder' (by (with_reducible repeat (first | apply Kd.R_alloc | apply Kd.R_drewN | apply Kd.R_drew)); exact HO_12.out) (Kd.R_base ho0) hb)
                                have n2_ := Aside0.mk (Kd.R_elder' (by (with_reducible repeat (first | apply Kd.R_alloc | apply Kd.R_drewN | apply Kd.R_drew)); exact HO_251000.out) (Kd.R_base ho0) hb)
                                have n3_ := Aside0.mk (Kd.R_elder' (by (with_reducible repeat (first | apply Kd.R_alloc | apply Kd.R_drewN | apply Kd.R_drew)); exact HO286.out) (Kd.R_base ho0) hb)
                                have n4_ := Aside0.mk (Kd.R_lower (Kd.R_new' (Kd.R_new' (Kd.R_new' (Kd.R_new' ho0 (Kd.R_lt (by (with_reducible repeat (first | apply Kd.R_alloc | apply Kd.R_drewN | apply Kd.R_drew)); exact HO_8.out))) (Kd.R_lt (by (with_reducible repeat (first | apply Kd.R_alloc | apply Kd.R_drewN | apply Kd.R_drew)); exact HO_12.out))) (Kd.R_lt (by (with_reducible repeat (first | apply Kd.R_alloc | apply Kd.R_drewN | apply Kd.R_drew)); exact HO_251000.out))) (Kd.R_lt (by (with_reducible repeat (first | apply Kd.R_alloc | apply Kd.R_drewN | apply Kd.R_drew)); exact HO286.out))) (below_size (by repeat (first | (with_reducible first | exact HB.out | apply below_alloc | apply pw_below_drewN | apply below_drew1 | refine below_set ?_ GE222.out | refine below_set ?_ GE250.out) | exact HB.out))))
                                have n5_ := Aside0.mk (blk_below (g := gb222) (o := .cells #[.slice A1_0 l1_0.length c1_0, .int .i64 a1_1, .int .i64 a1_2, .int .i64 a1_3, .int .i64 a1_4] 24 (0, 0)) (by (with_reducible repeat (first | refine blk_drewN ?_ _ | refine blk_drew ?_ | refine blk_alloc ?_ _)); exact BK222.out) hb)
                                have n6_ := Aside0.mk (blk_below (g := gb250) (o := .cells #[.slice Ao51 t277.length co51, .int .i64 t246, .int .i64 t247, .int .i64 t248, .int .i64 t249] 28 (0, 0)) (by (with_reducible repeat (first | refine blk_drewN ?_ _ | refine blk_drew ?_ | refine blk_alloc ?_ _)); exact BK250.out) hb)
                                have n7_ := Aside0.mk (below_step (by repeat (first | (with_reducible first | exact HB.out | apply below_alloc | apply pw_below_drewN | apply below_drew1 | refine below_set ?_ GE222.out | refine below_set ?_ GE250.out) | exact HB.out)) hb)
                                clear HO_8
                                clear HO_12
                                clear HO_251000
                                clear HO286
                                clear BK222
                                clear BK250
                                clear HB
                                have HO_8 := n0_
                                have HO_12 := n1_
                                have HO_251000 := n2_
                                have HO286 := n3_
                                have HO289 := n4_
                                have BK222 := n5_
                                have BK250 := n6_
                                have HB := n7_
                                clear n0_ n1_ n2_ n3_ n4_ n5_ n6_ n7_
                                (try clear hb)
                                (try clear hb2)
                                (try clear hk)
                                (try clear hi)
                                (try clear ho0)
                                refine hK.out _ _ ⟨(blk_cell BK222.out 0).trans rfl, (blk_cell BK222.out 1).trans rfl, (blk_cell BK222.out 2).trans rfl, (blk_cell BK222.out 3).trans rfl, (blk_cell BK222.out 4).trans rfl⟩ (fun hHeld => ?_)
                                clear hK K
                                refine norm_ (a' := ?_) ?_ ?_
                                rotate_left
                                · show Act.put _ (some 95) _ = _
                                  simp only [Act.put, List.setIfInBounds_toArray, List.set_cons_zero, List.set_cons_succ, i64_w, i32_w]
                                  rfl
                                refine one_ (i := 5) (N := some 97) #[true, true, true, true, true, true, false, false] rfl rfl (one_of HT_.out (by kernel_rfl)) (by decide) (fun K hK => ?_)
                                refine goes_ Try.func17 (by kernel_rfl) rfl #[.slice A2 l2.length c2] (by rfl) rfl rfl (by (try simp only [List.map_toArray, List.map_cons, List.map_nil]); first | done | rfl | (simp only [List.length_drop, List.length_take]; rfl)) ?_
                                with_reducible refine (laws_toIntS.calls kj34 _ _ l2 t294 _ ?side1 ?side2 A82.out).mono ?_
                                (case side1 => repeat (first | exact (Kd.C_below HR2.out HB.out) | (with_reducible refine Kd.C_alloc ?_ _) | (with_reducible refine Kd.C_drewN ?_ _) | (with_reducible refine Kd.C_drew ?_)))
                                (case side2 => exact HC2.out)
                                rintro e w93 ⟨v295, rfl, ho0, hb⟩
                                refine ⟨_, rfl, ?_⟩
                                have n0_ := Aside0.mk (Kd.R_elder' (by (with_reducible repeat (first | apply Kd.R_alloc | apply Kd.R_drewN | apply Kd.R_drew)); exact HO_8.out) (Kd.R_base ho0) hb)
                                have n1_ := Aside0.mk (Kd.R_elder' (by (with_reducible repeat (first | apply Kd.R_alloc | apply Kd.R_drewN | apply Kd.R_drew)); exact HO_12.out) (Kd.R_base ho0) hb)
                                have n2_ := Aside0.mk (Kd.R_elder' (by (with_reducible repeat (first | apply Kd.R_alloc | apply Kd.R_drewN | apply Kd.R_drew)); exact HO_251000.out) (Kd.R_base ho0) hb)
                                have n3_ := Aside0.mk (Kd.R_elder' (by (with_reducible repeat (first | apply Kd.R_alloc | apply Kd.R_drewN | apply Kd.R_drew)); exact HO286.out) (Kd.R_base ho0) hb)
                                have n4_ := Aside0.mk (Kd.R_elder' (by (with_reducible repeat (first | apply Kd.R_alloc | apply Kd.R_drewN | apply Kd.R_drew)); exact HO289.out) (Kd.R_base ho0) hb)
                                have n5_ := Aside0.mk (Kd.R_lower (Kd.R_new' (Kd.R_new' (Kd.R_new' (Kd.R_new' (Kd.R_new' ho0 (Kd.R_lt (by (with_reducible repeat (first | apply Kd.R_alloc | apply Kd.R_drewN | apply Kd.R_drew)); exact HO_8.out))) (Kd.R_lt (by (with_reducible repeat (first | apply Kd.R_alloc | apply Kd.R_drewN | apply Kd.R_drew)); exact HO_12.out))) (Kd.R_lt (by (with_reducible repeat (first | apply Kd.R_alloc | apply Kd.R_drewN | apply Kd.R_drew)); exact HO_251000.out))) (Kd.R_lt (by (with_reducible repeat (first | apply Kd.R_alloc | apply Kd.R_drewN | apply Kd.R_drew)); exact HO286.out))) (Kd.R_lt (by (with_reducible repeat (first | apply Kd.R_alloc | apply Kd.R_drewN | apply Kd.R_drew)); exact HO289.out))) (below_size (by repeat (first | (with_reducible first | exact HB.out | apply below_alloc | apply pw_below_drewN | apply below_drew1 | refine below_set ?_ GE222.out | refine below_set ?_ GE250.out) | exact HB.out))))
                                have n6_ := Aside0.mk (blk_below (g := gb222) (o := .cells #[.slice A1_0 l1_0.length c1_0, .int .i64 a1_1, .int .i64 a1_2, .int .i64 a1_3, .int .i64 a1_4] 24 (0, 0)) (by (with_reducible repeat (first | refine blk_drewN ?_ _ | refine blk_drew ?_ | refine blk_alloc ?_ _)); exact BK222.out) hb)
                                have n7_ := Aside0.mk (blk_below (g := gb250) (o := .cells #[.slice Ao51 t277.length co51, .int .i64 t246, .int .i64 t247, .int .i64 t248, .int .i64 t249] 28 (0, 0)) (by (with_reducible repeat (first | refine blk_drewN ?_ _ | refine blk_drew ?_ | refine blk_alloc ?_ _)); exact BK250.out) hb)
                                have n8_ := Aside0.mk (below_step (by repeat (first | (with_reducible first | exact HB.out | apply below_alloc | apply pw_below_drewN | apply below_drew1 | refine below_set ?_ GE222.out | refine below_set ?_ GE250.out) | exact HB.out)) hb)
                                clear HO_8
                                clear HO_12
                                clear HO_251000
                                clear HO286
                                clear HO289
                                clear BK222
                                clear BK250
                                clear HB
                                have HO_8 := n0_
                                have HO_12 := n1_
                                have HO_251000 := n2_
                                have HO286 := n3_
                                have HO289 := n4_
                                have HO296 := n5_
                                have BK222 := n6_
                                have BK250 := n7_
                                have HB := n8_
                                clear n0_ n1_ n2_ n3_ n4_ n5_ n6_ n7_ n8_
                                (try clear hb)
                                (try clear hb2)
                                (try clear hk)
                                (try clear hi)
                                (try clear ho0)
                                obtain ⟨Ao94, co94, eo94⟩ := Kd.R_slice HO286.out
                                (first | subst eo94 | (injection eo94 with f1_ f2_ f3_; have f4_ := f1_.symm; have f5_ := f3_.symm; clear f1_ f2_ f3_; subst f4_; subst f5_))
                                obtain ⟨Ao95, co95, eo95⟩ := Kd.R_slice HO289.out
                                (first | subst eo95 | (injection eo95 with f1_ f2_ f3_; have f4_ := f1_.symm; have f5_ := f3_.symm; clear f1_ f2_ f3_; subst f4_; subst f5_))
                                obtain ⟨Ao96, co96, eo96⟩ := Kd.R_slice HO296.out
                                (first | subst eo96 | (injection eo96 with f1_ f2_ f3_; have f4_ := f1_.symm; have f5_ := f3_.symm; clear f1_ f2_ f3_; subst f4_; subst f5_))
                                refine hK.out _ _ ⟨(blk_cell BK222.out 0).trans rfl, (blk_cell BK222.out 1).trans rfl, (blk_cell BK222.out 2).trans rfl, (blk_cell BK222.out 3).trans rfl, (blk_cell BK222.out 4).trans rfl⟩ (fun hHeld => ?_)
                                clear hK K
                                refine norm_ (a' := ?_) ?_ ?_
                                rotate_left
                                · show Act.put _ (some 97) _ = _
                                  simp only [Act.put, List.setIfInBounds_toArray, List.set_cons_zero, List.set_cons_succ, i64_w, i32_w]
                                  rfl
                                refine one_ (i := 6) (N := some 98) #[true, true, true, true, true, true, true, false] rfl rfl (one_of HT_.out (by kernel_rfl)) (by decide) (fun K hK => ?_)
                                refine goes_ Try.func26 (by kernel_rfl) rfl #[.slice Ao94 t284.length co94, .agg #[.slice Ao95 t287.length co95, .int .i64 t290, .int .i64 t291, .int .i64 t292, .int .i64 t293], .slice Ao96 t294.length co96] (by rfl) rfl rfl (by (try simp only [List.map_toArray, List.map_cons, List.map_nil]); first | done | rfl | (simp only [List.length_drop, List.length_take]; rfl)) ?_
                                with_reducible refine (impl_PutFirst.calls kj34 _ _ t284 _ _ t287 t290 t291 t292 t293 _ _ t294 t297 _ ?side1 ?side2 ?side3 ?side4 ?side5 ?side6 A83.out).mono ?_
                                (case side1 => repeat (first | exact (Kd.R_reads' HO286.out).2.2 | (with_reducible refine Kd.C_alloc ?_ _) | (with_reducible refine Kd.C_drewN ?_ _) | (with_reducible refine Kd.C_drew ?_)))
                                (case side2 => exact (Kd.R_reads' HO286.out).2.1)
                                (case side3 => repeat (first | exact (Kd.R_reads' HO289.out).2.2 | (with_reducible refine Kd.C_alloc ?_ _) | (with_reducible refine Kd.C_drewN ?_ _) | (with_reducible refine Kd.C_drew ?_)))
                                (case side4 => exact (Kd.R_reads' HO289.out).2.1)
                                (case side5 => repeat (first | exact (Kd.R_reads' HO296.out).2.2 | (with_reducible refine Kd.C_alloc ?_ _) | (with_reducible refine Kd.C_drewN ?_ _) | (with_reducible refine Kd.C_drew ?_)))
                                (case side6 => exact (Kd.R_reads' HO296.out).2.1)
                                rintro e w97 ⟨v298, rfl, ho0, hb⟩
                                refine ⟨_, rfl, ?_⟩
                                have n0_ := Aside0.mk (Kd.R_elder' (by (with_reducible repeat (first | apply Kd.R_alloc | apply Kd.R_drewN | apply Kd.R_drew)); exact HO_8.out) (Kd.R_base ho0) hb)
                                have n1_ := Aside0.mk (Kd.R_elder' (by (with_reducible repeat (first | apply Kd.R_alloc | apply Kd.R_drewN | apply Kd.R_drew)); exact HO_12.out) (Kd.R_base ho0) hb)
                                have n2_ := Aside0.mk (Kd.R_elder' (by (with_reducible repeat (first | apply Kd.R_alloc | apply Kd.R_drewN | apply Kd.R_drew)); exact HO_251000.out) (Kd.R_base ho0) hb)
                                have n3_ := Aside0.mk (Kd.R_elder' (by (with_reducible repeat (first | apply Kd.R_alloc | apply Kd.R_drewN | apply Kd.R_drew)); exact HO286.out) (Kd.R_base ho0) hb)
                                have n4_ := Aside0.mk (Kd.R_elder' (by (with_reducible repeat (first | apply Kd.R_alloc | apply Kd.R_drewN | apply Kd.R_drew)); exact HO289.out) (Kd.R_base ho0) hb)
                                have n5_ := Aside0.mk (Kd.R_elder' (by (with_reducible repeat (first | apply Kd.R_alloc | apply Kd.R_drewN | apply Kd.R_drew)); exact HO296.out) (Kd.R_base ho0) hb)
                                have n6_ := Aside0.mk (Kd.R_lower (Kd.R_new' (Kd.R_new' (Kd.R_new' (Kd.R_new' (Kd.R_new' (Kd.R_new' ho0 (Kd.R_lt (by (with_reducible repeat (first | apply Kd.R_alloc | apply Kd.R_drewN | apply Kd.R_drew)); exact HO_8.out))) (Kd.R_lt (by (with_reducible repeat (first | apply Kd.R_alloc | apply Kd.R_drewN | apply Kd.R_drew)); exact HO_12.out))) (Kd.R_lt (by (with_reducible repeat (first | apply Kd.R_alloc | apply Kd.R_drewN | apply Kd.R_drew)); exact HO_251000.out))) (Kd.R_lt (by (with_reducible repeat (first | apply Kd.R_alloc | apply Kd.R_drewN | apply Kd.R_drew)); exact HO286.out))) (Kd.R_lt (by (with_reducible repeat (first | apply Kd.R_alloc | apply Kd.R_drewN | apply Kd.R_drew)); exact HO289.out))) (Kd.R_lt (by (with_reducible repeat (first | apply Kd.R_alloc | apply Kd.R_drewN | apply Kd.R_drew)); exact HO296.out))) (below_size (by repeat (first | (with_reducible first | exact HB.out | apply below_alloc | apply pw_below_drewN | apply below_drew1 | refine below_set ?_ GE222.out | refine below_set ?_ GE250.out) | exact HB.out))))
                                have n7_ := Aside0.mk (blk_below (g := gb222) (o := .cells #[.slice A1_0 l1_0.length c1_0, .int .i64 a1_1, .int .i64 a1_2, .int .i64 a1_3, .int .i64 a1_4] 24 (0, 0)) (by (with_reducible repeat (first | refine blk_drewN ?_ _ | refine blk_drew ?_ | refine blk_alloc ?_ _)); exact BK222.out) hb)
                                have n8_ := Aside0.mk (blk_below (g := gb250) (o := .cells #[.slice Ao51 t277.length co51, .int .i64 t246, .int .i64 t247, .int .i64 t248, .int .i64 t249] 28 (0, 0)) (by (with_reducible repeat (first | refine blk_drewN ?_ _ | refine blk_drew ?_ | refine blk_alloc ?_ _)); exact BK250.out) hb)
                                have n9_ := Aside0.mk (below_step (by repeat (first | (with_reducible first | exact HB.out | apply below_alloc | apply pw_below_drewN | apply below_drew1 | refine below_set ?_ GE222.out | refine below_set ?_ GE250.out) | exact HB.out)) hb)
                                clear HO_8
                                clear HO_12
                                clear HO_251000
                                clear HO286
                                clear HO289
                                clear HO296
                                clear BK222
                                clear BK250
                                clear HB
                                have HO_8 := n0_
                                have HO_12 := n1_
                                have HO_251000 := n2_
                                have HO286 := n3_
                                have HO289 := n4_
                                have HO296 := n5_
                                have HO299 := n6_
                                have BK222 := n7_
                                have BK250 := n8_
                                have HB := n9_
                                clear n0_ n1_ n2_ n3_ n4_ n5_ n6_ n7_ n8_ n9_
                                (try clear hb)
                                (try clear hb2)
                                (try clear hk)
                                (try clear hi)
                                (try clear ho0)
                                refine hK.out _ _ ⟨(blk_cell BK222.out 0).trans rfl, (blk_cell BK222.out 1).trans rfl, (blk_cell BK222.out 2).trans rfl, (blk_cell BK222.out 3).trans rfl, (blk_cell BK222.out 4).trans rfl⟩ (fun hHeld => ?_)
                                clear hK K
                                refine norm_ (a' := ?_) ?_ ?_
                                rotate_left
                                · show Act.put _ (some 98) _ = _
                                  simp only [Act.put, List.setIfInBounds_toArray, List.set_cons_zero, List.set_cons_succ, i64_w, i32_w]
                                  rfl
                                refine pure_ (i := 7) (N := some 16) (v := ?_) (a' := ?_) #[true, true, true, true, true, true, true, true] rfl rfl (any_of HT_.out (by kernel_rfl)) (fun _ _ _ h => h) (Or.inl ⟨by rfl, ?_⟩) ?_ ?_
                                rotate_left
                                · intro w'
                                  go_simp
                                  with_reducible rfl
                                rotate_left
                                · simp only [Act.put, List.setIfInBounds_toArray, List.set_cons_zero, List.set_cons_succ, i64_w, i32_w]
                                  rfl
                                refine done_ (done_of HT_.out (by kernel_rfl)) ?_
                                obtain ⟨Ao98, co98, eo98⟩ := Kd.R_slice HO299.out
                                subst eo98
                                try go_wp2_with (first | ((with_reducible refine gate_callee (f := 20) rfl ?_); refine goesL_ (some 101) rfl rfl Try.func20 (by kernel_rfl) rfl #[.slice Ao98 t297.length co98, .slice Ao60 t237.length co60] rfl (by (try simp only [List.map_toArray, List.map_cons, List.map_nil]); first | done | rfl | (simp only [List.length_drop, List.length_take]; rfl)) ?_; (with_reducible refine (laws_eqIntS.calls kj34 _ _ t297 _ _ t237 true _ ?side1 ?side2 ?side3 ?side4 A84.out).mono ?_); (case side1 => repeat (first | exact (Kd.R_reads' HO299.out).2.2 | (with_reducible refine Kd.C_alloc ?_ _) | (with_reducible refine Kd.C_drewN ?_ _) | (with_reducible refine Kd.C_drew ?_))); (case side2 => exact (Kd.R_reads' HO299.out).2.1); (case side3 => repeat (first | exact (Kd.R_reads' HO_8.out).2.2 | (with_reducible refine Kd.C_alloc ?_ _) | (with_reducible refine Kd.C_drewN ?_ _) | (with_reducible refine Kd.C_drew ?_))); (case side4 => exact (Kd.R_reads' HO_8.out).2.1); rintro e w' ⟨rfl, ⟨nd, rfl⟩⟩; refine ⟨_, rfl, ?_⟩) | ((with_reducible refine gate_callee (f := 24) rfl ?_); refine goesL_ (some 105) rfl rfl Try.func24 (by kernel_rfl) rfl #[.slice Ao59 t282.length co59, .int .i64 1] rfl (by (try simp only [List.map_toArray, List.map_cons, List.map_nil]); first | done | (rw [show t282.length = t254.length from (Kd.R_reads' HO_12.out).1.symm] <;> rfl) | rfl | (simp only [List.length_drop, List.length_take]; rfl)) ?_; (with_reducible refine (laws_heldIntS.calls kj34 _ _ t282 1 t301 _ ?side1 ?side2 A86.out).mono ?_); (case side1 => repeat (first | exact (Kd.R_reads' HO_12.out).2.2 | (with_reducible refine Kd.C_alloc ?_ _) | (with_reducible refine Kd.C_drewN ?_ _) | (with_reducible refine Kd.C_drew ?_))); (case side2 => rw [show t282.length = t254.length from (Kd.R_reads' HO_12.out).1.symm]; exact (Kd.R_reads' HO_12.out).2.1); rintro e w' ⟨rfl, ⟨nd, rfl⟩⟩; refine ⟨_, rfl, ?_⟩))
                                go_ret
                                exact ⟨by first | rfl | (simp [errW_none, errW_some] <;> rfl) | (simp [*, errW_none, errW_some] <;> rfl), by repeat (first | (with_reducible first | exact HB.out | apply below_alloc | apply pw_below_drewN | apply below_drew1 | refine below_set ?_ GE222.out | refine below_set ?_ GE250.out) | exact HB.out)⟩
                              · rw [if_neg c88] at H
                                have c88b0 : (t301 == t281) = false := beq_eq_false_iff_ne.mpr c88
                                have c88b1 : (t301 != t281) = true := bne_iff_ne.mpr c88
                                exact noArm H HTRUE_.out
                          · replace c85 := Bool.eq_false_iff.mpr c85
                            subst c85
                            have H1 : (some false) = some r := by rw [if_neg (show ¬ (false = true) by decide)] at H; exact H
                            clear H
                            have H := H1
                            clear H1
                            exact noArm H HTRUE_.out
                        · rw [if_neg c79] at H
                          have c79b0 : (t283 == t281) = false := beq_eq_false_iff_ne.mpr c79
                          have c79b1 : (t283 != t281) = true := bne_iff_ne.mpr c79
                          exact noArm H HTRUE_.out
              · replace c31 := Bool.eq_false_iff.mpr c31
                subst c31
                have H1 : (some false) = some r := by rw [if_neg (show ¬ (false = true) by decide)] at H; exact H
                clear H
                have H := H1
                clear H1
                exact noArm H HTRUE_.out
            · replace c28 := Bool.eq_false_iff.mpr c28
              subst c28
              have H1 : (some false) = some r := by rw [if_neg (show ¬ (false = true) by decide)] at H; exact H
              clear H
              have H := H1
              clear H1
              exact noArm H HTRUE_.out
          · replace c25 := Bool.eq_false_iff.mpr c25
            subst c25
            have H1 : (some false) = some r := by rw [if_neg (show ¬ (false = true) by decide)] at H; exact H
            clear H
            have H := H1
            clear H1
            exact noArm H HTRUE_.out
        · replace c22 := Bool.eq_false_iff.mpr c22
          subst c22
          have H1 : (some false) = some r := by rw [if_neg (show ¬ (false = true) by decide)] at H; exact H
          clear H
          have H := H1
          clear H1
          exact noArm H HTRUE_.out

def wf24 (x : S24) : Prop := ((x.f0).length ≤ maxLen ∧ ∀ y_7 ∈ (x.f0), (Lit.int .i64 y_7).wf = true) ∧ (Lit.int .i64 x.f1).wf = true ∧ (Lit.int .i64 x.f2).wf = true ∧ (Lit.int .i64 x.f3).wf = true ∧ (Lit.int .i64 x.f4).wf = true
theorem op24 : Op.Opens Try.prog 24 k24 wf24 := Op.opens_mono (Op.opens_struct (fun x_ => ⟨x_.1, x_.2.1, x_.2.2.1, x_.2.2.2.1, x_.2.2.2.2⟩) (fun _ => rfl) Try.underlying24 (by kernel_rfl) (Op.opensF_cons rfl (by kernel_rfl) (Op.opens_slice Try.underlying22 (by kernel_rfl) (Op.opens_int Try.underlying3)) (Op.opensF_cons rfl (by kernel_rfl) (Op.opens_int Try.underlying3) (Op.opensF_cons rfl (by kernel_rfl) (Op.opens_int Try.underlying3) (Op.opensF_cons rfl (by kernel_rfl) (Op.opens_int Try.underlying3) (Op.opensF_last rfl (by kernel_rfl) (Op.opens_int Try.underlying3))))))) (fun _ h_ => h_)
/-- The one pure statement of laws_FnExactPutFirst. -/
def laws_FnExactPutFirst.Pure : Prop := ∀ (l0 : List Int) (l1_0 : List Int) (a1_1 : Int) (a1_2 : Int) (a1_3 : Int) (a1_4 : Int) (l2 : List Int), (l0.length ≤ maxLen ∧ ∀ y_7 ∈ l0, (Lit.int .i64 y_7).wf = true) → (l1_0.length ≤ maxLen ∧ ∀ y_7 ∈ l1_0, (Lit.int .i64 y_7).wf = true) → (Lit.int .i64 a1_1).wf = true → (Lit.int .i64 a1_2).wf = true → (Lit.int .i64 a1_3).wf = true → (Lit.int .i64 a1_4).wf = true → (l2.length ≤ maxLen ∧ ∀ y_7 ∈ l2, (Lit.int .i64 y_7).wf = true) → ∃ k, laws_FnExactPutFirst.f k l0 l1_0 a1_1 a1_2 a1_3 a1_4 l2 = some true
theorem laws_FnExactPutFirst.walk (P : laws_FnExactPutFirst.Pure) (A0 : Option Addr) (c0 : Nat) (l0 : List Int) (A1_0 : Option Addr) (c1_0 : Nat) (l1_0 : List Int) (a1_1 : Int) (a1_2 : Int) (a1_3 : Int) (a1_4 : Int) (A2 : Option Addr) (c2 : Nat) (l2 : List Int) (w : World) (hr0 : Kd.C (Kd.int .i64) w A0 l0.length l0) (hc0 : l0.length ≤ c0) (hr1_0 : Kd.C (Kd.int .i64) w A1_0 l1_0.length l1_0) (hc1_0 : l1_0.length ≤ c1_0) (hr2 : Kd.C (Kd.int .i64) w A2 l2.length l2) (hc2 : l2.length ≤ c2) (ql0 : (l0.length ≤ maxLen ∧ ∀ y_7 ∈ l0, (Lit.int .i64 y_7).wf = true)) (ql1_0 : (l1_0.length ≤ maxLen ∧ ∀ y_7 ∈ l1_0, (Lit.int .i64 y_7).wf = true)) (qa1_1 : (Lit.int .i64 a1_1).wf = true) (qa1_2 : (Lit.int .i64 a1_2).wf = true) (qa1_3 : (Lit.int .i64 a1_3).wf = true) (qa1_4 : (Lit.int .i64 a1_4).wf = true) (ql2 : (l2.length ≤ maxLen ∧ ∀ y_7 ∈ l2, (Lit.int .i64 y_7).wf = true)) :
    Calls Try.prog 4 #[.slice A0 l0.length c0, .agg #[.slice A1_0 l1_0.length c1_0, .int .i64 a1_1, .int .i64 a1_2, .int .i64 a1_3, .int .i64 a1_4], .slice A2 l2.length c2] w fun e w' => e = .returned (.bool true) ∧ Below w.heap.size w w' := by
  obtain ⟨k, h⟩ := P l0 l1_0 a1_1 a1_2 a1_3 a1_4 l2 ql0 ql1_0 qa1_1 qa1_2 qa1_3 qa1_4 ql2
  refine (laws_FnExactPutFirst.calls k A0 c0 l0 A1_0 c1_0 l1_0 a1_1 a1_2 a1_3 a1_4 A2 c2 l2 true w hr0 hc0 hr1_0 hc1_0 hr2 hc2 ⟨rfl⟩ h).mono ?_
  rintro e w' ⟨rfl, hd⟩
  exact ⟨rfl, hd⟩

end Go.Proofs.Ythajjjpblkhmmaa.CP
