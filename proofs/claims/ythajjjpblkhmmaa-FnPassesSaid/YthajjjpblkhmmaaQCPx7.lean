/- Functions that a law of this seat reaches: written by a program of this session (wip/xprint.py), and by hand. -/
import Derived.Test.YthajjjpblkhmmaaQMac
import Derived.Test.YthajjjpblkhmmaaQCPx0
import Derived.Test.YthajjjpblkhmmaaQCPx1
import Derived.Test.YthajjjpblkhmmaaQCPx2
import Derived.Test.YthajjjpblkhmmaaQCPx3
namespace Go.Proofs.Ythajjjpblkhmmaa.CP
open Go.RowKit Go.Proofs.Ythajjjpblkhmmaa.B Go.Proofs.YthajjjpblkhmmaaW.PrintWords Go.Proofs.YthajjjpblkhmmaaW.PrintLast Go.Proofs.YthajjjpblkhmmaaW.PrintMore
attribute [local go_sem] max2_int min2_int max_two min_two max_three min_three max_four min_four   -- for this text's walks alone
set_option linter.unusedVariables false
set_option linter.unusedSimpArgs false

/-! ### spec_l07Abs: function 79 -/
def spec_l07Abs.f (a0 : Int) : Option (Int) := if a0 < 0 then (some (wrap64 (-a0))) else (some a0)
set_option maxHeartbeats 8000000 in
set_option maxRecDepth 100000 in
theorem spec_l07Abs.calls (a0 : Int) (r : Int) (w : World) (h : spec_l07Abs.f a0 = some r) :
  Calls Try.prog 79 #[.int .i64 a0] w fun e w' => e = .returned (.int .i64 r) ∧ Drawn0 w w' := by
 have H : (if a0 < 0 then (some (wrap64 (-a0))) else (some a0)) = some r := h
 clear h
 by_cases c2 : a0 < 0
 ·rw [if_pos c2] at H
  have c2b0 : decide (a0 < 0) = true := decide_eq_true c2
  clear c2
  obtain rfl := Option.some.inj H
  go_enter Try.func79, Try.ntmps79
  go_wp2
  go_ret
  exact ⟨by first | rfl | (simp; done) | (simp [*]; done), by repeat (first | exact Drawn0.refl _ | apply Drawn0.step)⟩
 ·rw [if_neg c2] at H
  have c2b0 : decide (a0 < 0) = false := decide_eq_false c2
  clear c2
  obtain rfl := Option.some.inj H
  go_enter Try.func79, Try.ntmps79
  go_wp2
  go_ret
  exact ⟨by first | rfl | (simp; done) | (simp [*]; done), by repeat (first | exact Drawn0.refl _ | apply Drawn0.step)⟩

def absI (n : Int) : Int := if n < 0 then -n else n
theorem abs_f (n : Int) (h : -32767 ≤ n ∧ n ≤ 32767) : spec_l07Abs.f n = some (absI n) := by
  unfold spec_l07Abs.f absI
  by_cases hn : n < 0
  · rw [if_pos hn, if_pos hn, w64 (by omega) (by omega)]
  · rw [if_neg hn, if_neg hn]
theorem mx_abs (n : Int) (h : -32767 ≤ n ∧ n ≤ 32767) : mx n (wrap64 (-n)) = absI n := by
  rw [w64 (by omega) (by omega)]
  unfold mx absI
  by_cases hn : n < 0
  · rw [if_pos (by omega), if_pos hn]
  · rw [if_neg (by omega), if_neg hn]

/-! ### spec_RefineOf: function 27 -/
mutual
def spec_RefineOf.j0 : Nat → List Int → List Int → Bool → List Int → Int → Int → Int → Int → Option (List Int)
  | 0, _, _, _, _, _, _, _, _ => none
  | k + 1, x0, x5, x22, x232000, x232001, x232002, x232003, x232004 => if x22 = true then (some x5) else ((spec_ToZig.f k x0).bind fun t237 => (spec_RefineOf.l0 k x5 t237 x232001 x232000 x232001 x232002 x232003 x232004))
def spec_RefineOf.l0 : Nat → List Int → List Int → Int → List Int → Int → Int → Int → Int → Option (List Int)
  | 0, _, _, _, _, _, _, _, _ => none
  | k + 1, x5, x6, x7, x232000, x232001, x232002, x232003, x232004 => if x7 ≤ x232002 then (if 0 ≤ x7 then (if x7 < (x6.length : Int) then ((spec_l07Abs.f (rd x6 x7)).bind fun t241 => (if 0 ≤ x232004 then (if (rd x6 x7) < 0 then ((spec_l13Cut.f (rd x6 x7) x232003).bind fun t244 => (if t244 = 0 then (if x5.length < 17592186044416 then (spec_RefineOf.l0 k (x5 ++ [wrap64 (-(Go.bits .and .i64 (shr .i64 t241 x232004) 1))]) x6 (wrap64 (x7 + 1)) x232000 x232001 x232002 x232003 x232004) else (none)) else (if x5.length < 17592186044416 then (spec_RefineOf.l0 k (x5 ++ [Go.bits .and .i64 (shr .i64 t241 x232004) 1]) x6 (wrap64 (x7 + 1)) x232000 x232001 x232002 x232003 x232004) else (none)))) else (if x5.length < 17592186044416 then (spec_RefineOf.l0 k (x5 ++ [Go.bits .and .i64 (shr .i64 t241 x232004) 1]) x6 (wrap64 (x7 + 1)) x232000 x232001 x232002 x232003 x232004) else (none))) else (none))) else (none)) else (none)) else (some x5)
end
def spec_RefineOf.f (k : Nat) (l0 : List Int) (l1_0 : List Int) (a1_1 : Int) (a1_2 : Int) (a1_3 : Int) (a1_4 : Int) : Option (List Int) := (some (([] : List Int) : List Int)).bind fun y232 => ((spec_l11Level.f k l0).bind fun t235 => (if t235 = true then ((spec_l12Bits.f l1_0 a1_1 a1_2 a1_3 a1_4).bind fun t236 => (if t236 = true then (spec_RefineOf.j0 k l0 y232 (a1_3 == 0) l1_0 a1_1 a1_2 a1_3 a1_4) else (spec_RefineOf.j0 k l0 y232 true l1_0 a1_1 a1_2 a1_3 a1_4))) else (spec_RefineOf.j0 k l0 y232 true l1_0 a1_1 a1_2 a1_3 a1_4)))
set_option maxHeartbeats 8000000 in
set_option maxRecDepth 100000 in
theorem spec_RefineOf.calls (k : Nat) (A0 : Option Addr) (c0 : Nat) (l0 : List Int) (A1_0 : Option Addr) (c1_0 : Nat) (l1_0 : List Int) (a1_1 : Int) (a1_2 : Int) (a1_3 : Int) (a1_4 : Int) (r : List Int) (w : World) (hr0 : Kd.C (Kd.int .i64) w A0 l0.length l0) (hc0 : l0.length ≤ c0) (hr1_0 : Kd.C (Kd.int .i64) w A1_0 l1_0.length l1_0) (hc1_0 : l1_0.length ≤ c1_0) (h : spec_RefineOf.f k l0 l1_0 a1_1 a1_2 a1_3 a1_4 = some r) :
  Calls Try.prog 27 #[.slice A0 l0.length c0, .agg #[.slice A1_0 l1_0.length c1_0, .int .i64 a1_1, .int .i64 a1_2, .int .i64 a1_3, .int .i64 a1_4]] w fun e w' => ∃ v0_ : Value, e = .returned (v0_) ∧ Kd.R (Kd.int .i64) 3 w' w.heap.size (fun _ => True) v0_ r ∧ Below w.heap.size w w' := by
 have hu28 := Try.underlying28
 have HR0 := aM hr0
 have HC0 := aM hc0
 clear hr0 hc0
 have HR1_0 := aM hr1_0
 have HC1_0 := aM hc1_0
 clear hr1_0 hc1_0
 have HB := aM (Below.refl w.heap.size w)
 have H : ((some (([] : List Int) : List Int)).bind fun y232 => ((spec_l11Level.f k l0).bind fun t235 => (if t235 = true then ((spec_l12Bits.f l1_0 a1_1 a1_2 a1_3 a1_4).bind fun t236 => (if t236 = true then (spec_RefineOf.j0 k l0 y232 (a1_3 == 0) l1_0 a1_1 a1_2 a1_3 a1_4) else (spec_RefineOf.j0 k l0 y232 true l1_0 a1_1 a1_2 a1_3 a1_4))) else (spec_RefineOf.j0 k l0 y232 true l1_0 a1_1 a1_2 a1_3 a1_4)))) = some r := h
 clear h
 obtain ⟨y232, hy232⟩ : ∃ y_ : List Int, y_ = (([] : List Int)) := ⟨_, rfl⟩
 replace H : ((spec_l11Level.f k l0).bind fun t235 => (if t235 = true then ((spec_l12Bits.f l1_0 a1_1 a1_2 a1_3 a1_4).bind fun t236 => (if t236 = true then (spec_RefineOf.j0 k l0 y232 (a1_3 == 0) l1_0 a1_1 a1_2 a1_3 a1_4) else (spec_RefineOf.j0 k l0 y232 true l1_0 a1_1 a1_2 a1_3 a1_4))) else (spec_RefineOf.j0 k l0 y232 true l1_0 a1_1 a1_2 a1_3 a1_4))) = some r := by first | (rw [hy232]; with_reducible exact H) | (have H2_ := (Option.bind_some _ _).symm.trans H; rw [hy232]; with_reducible exact H2_) | (have H2_ := (Option.bind_some _ _).symm.trans H; with_reducible exact H2_) | with_reducible exact H | (rw [hy232]; exact H) | exact H
 have Ny232 := aM hy232
 clear hy232
 have HC3 := aM H
 clear H
 go_enter Try.func27, Try.ntmps27
 go_upto_region 2 with (first | ((with_reducible refine gate_dst (N := 3) rfl ?_); refine box_event ?hg (N := 3) ?hd (cs := #[.slice A1_0 l1_0.length c1_0, .int .i64 a1_1, .int .i64 a1_2, .int .i64 a1_3, .int .i64 a1_4]) (t := 28) ?hr ?_; (case hd => rfl); (case hg => rfl); (case hr => first | (go_simp; done) | (go_simp; rfl)); intro gb231 hg w4 hbox hb; have BK231 := aM hbox; have GW231 := aM (zG hg : w.heap.size ≤ gb231); have GE231 := aM (zG hg : w.heap.size ≤ gb231); replace HB := cH HB hb; clear hb hbox hg) | ((with_reducible refine gate_dst (N := 9) rfl ?_); refine Kd.R_lit (Kd.int .i64) _ 3 ?hg (N := 9) ?hd (xs := ([] : List Int)) (inner := []) (ok := fun _ => True) (okp := fun _ => True) ?hr ?hp (fun _ hk => hk) trivial (Below.refl _ _) (Nat.le_refl _) (by simp) ?_; (case hd => rfl); (case hg => rfl); (case hr => first | (go_simp; done) | (go_simp; rfl)); (case hp => exact (Reps.none _ _)); intro v233 w5 ho6 hb hg_ hnew_; clear hg_ hnew_; (first | rw [← Ny232.out] at ho6 | (simp only [Int.reduceToNat] at ho6; rw [← Ny232.out] at ho6)); have HO234 := aM (Kd.R_lower ho6 (below_size zH)); replace BK231 := cB BK231 hb; replace HB := cH HB hb; clear hb ho6))
 repeat (go_quiet (fail); go_upto_region 2 with (first | ((with_reducible refine gate_dst (N := 3) rfl ?_); refine box_event ?hg (N := 3) ?hd (cs := #[.slice A1_0 l1_0.length c1_0, .int .i64 a1_1, .int .i64 a1_2, .int .i64 a1_3, .int .i64 a1_4]) (t := 28) ?hr ?_; (case hd => rfl); (case hg => rfl); (case hr => first | (go_simp; done) | (go_simp; rfl)); intro gb231 hg w4 hbox hb; have BK231 := aM hbox; have GW231 := aM (zG hg : w.heap.size ≤ gb231); have GE231 := aM (zG hg : w.heap.size ≤ gb231); replace HB := cH HB hb; clear hb hbox hg) | ((with_reducible refine gate_dst (N := 9) rfl ?_); refine Kd.R_lit (Kd.int .i64) _ 3 ?hg (N := 9) ?hd (xs := ([] : List Int)) (inner := []) (ok := fun _ => True) (okp := fun _ => True) ?hr ?hp (fun _ hk => hk) trivial (Below.refl _ _) (Nat.le_refl _) (by simp) ?_; (case hd => rfl); (case hg => rfl); (case hr => first | (go_simp; done) | (go_simp; rfl)); (case hp => exact (Reps.none _ _)); intro v233 w5 ho6 hb hg_ hnew_; clear hg_ hnew_; (first | rw [← Ny232.out] at ho6 | (simp only [Int.reduceToNat] at ho6; rw [← Ny232.out] at ho6)); have HO234 := aM (Kd.R_lower ho6 (below_size zH)); replace BK231 := cB BK231 hb; replace HB := cH HB hb; clear hb ho6)))
 (try simp only [Act.put, List.setIfInBounds_toArray, List.set_cons_zero, List.set_cons_succ])
 go_cut [22] (fun v22 wc => ∃ (kq : Nat) (x22_2 : Bool), v22 = .bool x22_2 ∧ Aside0 (spec_RefineOf.j0 kq l0 y232 x22_2 l1_0 a1_1 a1_2 a1_3 a1_4 = some r) ∧ Aside0 (kq ≤ k) ∧ Aside0 (Kd.R (Kd.int .i64) 3 wc w.heap.size (fun _ => True) v233 y232) ∧ Aside0 (wc.heap[gb231]? = some (.cells #[(.slice A1_0 l1_0.length c1_0), .int .i64 a1_1, .int .i64 a1_2, .int .i64 a1_3, .int .i64 a1_4] 28 (0, 0))) ∧ Aside0 (Below w.heap.size w wc))
 case first =>
  have H := HC3.out
  clear HC3
  obtain ⟨t235, A7, H⟩ := oH H
  by_cases c8 : t235 = true
  ·subst c8
   replace H := iT H
   obtain ⟨t236, A9, H⟩ := oH H
   by_cases c10 : t236 = true
   ·subst c10
    replace H := iT H
    have H' := aM H
    clear H
    repeat (go_wp2_with (first | (go_at_call 70; (with_reducible refine (spec_l11Level.calls k _ _ l0 true _ ?side1 ?side2 A7.out).mono ?_); (case side1 => exact zC (Kd.C_below HR0.out HB.out)); (case side2 => exact HC0.out); rintro e w' ⟨rfl, ⟨nd, rfl⟩⟩; (try exact zD); obtain ⟨hcz11_0, hcz11_1, hcz11_2, hcz11_3, hcz11_4⟩ := kk5 BK231; obtain ⟨hfz11_0, hfz11_1, hfz11_2, hfz11_3, hfz11_4⟩ := kg5 BK231) | (go_at_call 71; (with_reducible refine (spec_l12Bits.calls _ _ l1_0 a1_1 a1_2 a1_3 a1_4 true _ ?side1 ?side2 A9.out).mono ?_); (case side1 => exact zC (Kd.C_below HR1_0.out zH)); (case side2 => exact HC1_0.out); rintro e w12 ⟨rfl, hb⟩; replace HO234 := aM (Kd.R_below (by (with_reducible repeat (first | apply Kd.R_alloc | apply Kd.R_drewN | apply Kd.R_drew)); exact HO234.out) hb); replace BK231 := cB BK231 hb; replace HB := cH HB hb; (try clear hb); obtain ⟨hcz13_0, hcz13_1, hcz13_2, hcz13_3, hcz13_4⟩ := kk5 BK231; obtain ⟨hfz13_0, hfz13_1, hfz13_2, hfz13_3, hfz13_4⟩ := kg5 BK231)); go_quiet (first | (go_at_call 70; (with_reducible refine (spec_l11Level.calls k _ _ l0 true _ ?side1 ?side2 A7.out).mono ?_); (case side1 => exact zC (Kd.C_below HR0.out HB.out)); (case side2 => exact HC0.out); rintro e w' ⟨rfl, ⟨nd, rfl⟩⟩; (try exact zD); obtain ⟨hcz11_0, hcz11_1, hcz11_2, hcz11_3, hcz11_4⟩ := kk5 BK231; obtain ⟨hfz11_0, hfz11_1, hfz11_2, hfz11_3, hfz11_4⟩ := kg5 BK231)))
    try go_wp2_with (first | (go_at_call 70; (with_reducible refine (spec_l11Level.calls k _ _ l0 true _ ?side1 ?side2 A7.out).mono ?_); (case side1 => exact zC (Kd.C_below HR0.out HB.out)); (case side2 => exact HC0.out); rintro e w' ⟨rfl, ⟨nd, rfl⟩⟩; (try exact zD); obtain ⟨hcz11_0, hcz11_1, hcz11_2, hcz11_3, hcz11_4⟩ := kk5 BK231; obtain ⟨hfz11_0, hfz11_1, hfz11_2, hfz11_3, hfz11_4⟩ := kg5 BK231) | (go_at_call 71; (with_reducible refine (spec_l12Bits.calls _ _ l1_0 a1_1 a1_2 a1_3 a1_4 true _ ?side1 ?side2 A9.out).mono ?_); (case side1 => exact zC (Kd.C_below HR1_0.out zH)); (case side2 => exact HC1_0.out); rintro e w12 ⟨rfl, hb⟩; replace HO234 := aM (Kd.R_below (by (with_reducible repeat (first | apply Kd.R_alloc | apply Kd.R_drewN | apply Kd.R_drew)); exact HO234.out) hb); replace BK231 := cB BK231 hb; replace HB := cH HB hb; (try clear hb); obtain ⟨hcz13_0, hcz13_1, hcz13_2, hcz13_3, hcz13_4⟩ := kk5 BK231; obtain ⟨hfz13_0, hfz13_1, hfz13_2, hfz13_3, hfz13_4⟩ := kg5 BK231))
    go_meet
    case rel => exact ⟨_, ((a1_3 == 0)), zS, H', zO, ⟨by (with_reducible repeat (first | apply Kd.R_alloc | apply Kd.R_drewN | apply Kd.R_drew)); exact HO234.out⟩, ⟨zK BK231⟩, ⟨zH⟩⟩
   ·replace c10 := Bool.eq_false_iff.mpr c10
    subst c10
    replace H := iF H
    have H' := aM H
    clear H
    repeat (go_wp2_with (first | (go_at_call 70; (with_reducible refine (spec_l11Level.calls k _ _ l0 true _ ?side1 ?side2 A7.out).mono ?_); (case side1 => exact zC (Kd.C_below HR0.out HB.out)); (case side2 => exact HC0.out); rintro e w' ⟨rfl, ⟨nd, rfl⟩⟩; (try exact zD); obtain ⟨hcz14_0, hcz14_1, hcz14_2, hcz14_3, hcz14_4⟩ := kk5 BK231; obtain ⟨hfz14_0, hfz14_1, hfz14_2, hfz14_3, hfz14_4⟩ := kg5 BK231) | (go_at_call 71; (with_reducible refine (spec_l12Bits.calls _ _ l1_0 a1_1 a1_2 a1_3 a1_4 false _ ?side1 ?side2 A9.out).mono ?_); (case side1 => exact zC (Kd.C_below HR1_0.out zH)); (case side2 => exact HC1_0.out); rintro e w15 ⟨rfl, hb⟩; replace HO234 := aM (Kd.R_below (by (with_reducible repeat (first | apply Kd.R_alloc | apply Kd.R_drewN | apply Kd.R_drew)); exact HO234.out) hb); replace BK231 := cB BK231 hb; replace HB := cH HB hb; (try clear hb))); go_quiet (first | (go_at_call 70; (with_reducible refine (spec_l11Level.calls k _ _ l0 true _ ?side1 ?side2 A7.out).mono ?_); (case side1 => exact zC (Kd.C_below HR0.out HB.out)); (case side2 => exact HC0.out); rintro e w' ⟨rfl, ⟨nd, rfl⟩⟩; (try exact zD); obtain ⟨hcz14_0, hcz14_1, hcz14_2, hcz14_3, hcz14_4⟩ := kk5 BK231; obtain ⟨hfz14_0, hfz14_1, hfz14_2, hfz14_3, hfz14_4⟩ := kg5 BK231)))
    try go_wp2_with (first | (go_at_call 70; (with_reducible refine (spec_l11Level.calls k _ _ l0 true _ ?side1 ?side2 A7.out).mono ?_); (case side1 => exact zC (Kd.C_below HR0.out HB.out)); (case side2 => exact HC0.out); rintro e w' ⟨rfl, ⟨nd, rfl⟩⟩; (try exact zD); obtain ⟨hcz14_0, hcz14_1, hcz14_2, hcz14_3, hcz14_4⟩ := kk5 BK231; obtain ⟨hfz14_0, hfz14_1, hfz14_2, hfz14_3, hfz14_4⟩ := kg5 BK231) | (go_at_call 71; (with_reducible refine (spec_l12Bits.calls _ _ l1_0 a1_1 a1_2 a1_3 a1_4 false _ ?side1 ?side2 A9.out).mono ?_); (case side1 => exact zC (Kd.C_below HR1_0.out zH)); (case side2 => exact HC1_0.out); rintro e w15 ⟨rfl, hb⟩; replace HO234 := aM (Kd.R_below (by (with_reducible repeat (first | apply Kd.R_alloc | apply Kd.R_drewN | apply Kd.R_drew)); exact HO234.out) hb); replace BK231 := cB BK231 hb; replace HB := cH HB hb; (try clear hb)))
    go_meet
    case rel => exact ⟨_, (true), zS, H', zO, ⟨by (with_reducible repeat (first | apply Kd.R_alloc | apply Kd.R_drewN | apply Kd.R_drew)); exact HO234.out⟩, ⟨zK BK231⟩, ⟨zH⟩⟩
  ·replace c8 := Bool.eq_false_iff.mpr c8
   subst c8
   replace H := iF H
   have H' := aM H
   clear H
   repeat (go_wp2_with (first | (go_at_call 70; (with_reducible refine (spec_l11Level.calls k _ _ l0 false _ ?side1 ?side2 A7.out).mono ?_); (case side1 => exact zC (Kd.C_below HR0.out HB.out)); (case side2 => exact HC0.out); rintro e w' ⟨rfl, ⟨nd, rfl⟩⟩; (try exact zD))); go_quiet (first | (go_at_call 70; (with_reducible refine (spec_l11Level.calls k _ _ l0 false _ ?side1 ?side2 A7.out).mono ?_); (case side1 => exact zC (Kd.C_below HR0.out HB.out)); (case side2 => exact HC0.out); rintro e w' ⟨rfl, ⟨nd, rfl⟩⟩; (try exact zD))))
   try go_wp2_with (first | (go_at_call 70; (with_reducible refine (spec_l11Level.calls k _ _ l0 false _ ?side1 ?side2 A7.out).mono ?_); (case side1 => exact zC (Kd.C_below HR0.out HB.out)); (case side2 => exact HC0.out); rintro e w' ⟨rfl, ⟨nd, rfl⟩⟩; (try exact zD)))
   go_meet
   case rel => exact ⟨_, (true), zS, H', zO, ⟨by (with_reducible repeat (first | apply Kd.R_alloc | apply Kd.R_drewN | apply Kd.R_drew)); exact HO234.out⟩, ⟨zK BK231⟩, ⟨zH⟩⟩
 case rest =>
  clear HC3
  obtain ⟨kq, x22_2, rfl, HA, HJ2, HO_5, BK231, HB⟩ := hcut
  cases kq with
  | zero => exact absurd HA.out (by simp [spec_RefineOf.j0])
  | succ kj2 =>
   have H := HA.out
   clear HA
   simp only [spec_RefineOf.j0] at H
   by_cases c16 : x22_2 = true
   ·subst c16
    replace H := iT H
    obtain rfl := Option.some.inj H
    go_wp2
    repeat (go_quiet (fail); try go_wp2)
    go_ret
    exact ⟨_, zR, by (with_reducible repeat (first | apply Kd.R_alloc | apply Kd.R_drewN | apply Kd.R_drew)); exact HO_5.out, zH⟩
   ·replace c16 := Bool.eq_false_iff.mpr c16
    subst c16
    replace H := iF H
    obtain ⟨t237, A17, H⟩ := oH H
    have H' := aM H
    clear H
    repeat (go_wp2_with (first | (go_at_call 37; (with_reducible refine (spec_ToZig.calls kj2 _ _ l0 t237 _ ?side1 ?side2 A17.out).mono ?_); (case side1 => exact zC (Kd.C_below HR0.out HB.out)); (case side2 => exact HC0.out); rintro e w18 ⟨v238, rfl, ho0, hb⟩; have HO239 := aM (Kd.R_lower (Kd.R_new' ho0 (Kd.R_lt (by (with_reducible repeat (first | apply Kd.R_alloc | apply Kd.R_drewN | apply Kd.R_drew)); exact HO_5.out))) (below_size zH)); replace HO_5 := aM (Kd.R_elder' (by (with_reducible repeat (first | apply Kd.R_alloc | apply Kd.R_drewN | apply Kd.R_drew)); exact HO_5.out) (Kd.R_base ho0) hb); replace BK231 := cB BK231 hb; replace HB := cH HB hb; (try clear hb); (try clear ho0); obtain ⟨hcz19_0, hcz19_1, hcz19_2, hcz19_3, hcz19_4⟩ := kk5 BK231; obtain ⟨hfz19_0, hfz19_1, hfz19_2, hfz19_3, hfz19_4⟩ := kg5 BK231)); go_quiet (fail))
    try go_wp2_with (first | (go_at_call 37; (with_reducible refine (spec_ToZig.calls kj2 _ _ l0 t237 _ ?side1 ?side2 A17.out).mono ?_); (case side1 => exact zC (Kd.C_below HR0.out HB.out)); (case side2 => exact HC0.out); rintro e w18 ⟨v238, rfl, ho0, hb⟩; have HO239 := aM (Kd.R_lower (Kd.R_new' ho0 (Kd.R_lt (by (with_reducible repeat (first | apply Kd.R_alloc | apply Kd.R_drewN | apply Kd.R_drew)); exact HO_5.out))) (below_size zH)); replace HO_5 := aM (Kd.R_elder' (by (with_reducible repeat (first | apply Kd.R_alloc | apply Kd.R_drewN | apply Kd.R_drew)); exact HO_5.out) (Kd.R_base ho0) hb); replace BK231 := cB BK231 hb; replace HB := cH HB hb; (try clear hb); (try clear ho0); obtain ⟨hcz19_0, hcz19_1, hcz19_2, hcz19_3, hcz19_4⟩ := kk5 BK231; obtain ⟨hfz19_0, hfz19_1, hfz19_2, hfz19_3, hfz19_4⟩ := kg5 BK231))
    go_loopg [5, 7] kj2 (fun kq v5 v7 w' => ∃ (x5_2 : List Int) (x7_2 : Int), v7 = .int .i64 x7_2 ∧ Aside0 (spec_RefineOf.l0 kq x5_2 t237 x7_2 l1_0 a1_1 a1_2 a1_3 a1_4 = some r) ∧ Aside0 (kq ≤ kj2) ∧ Aside0 (Kd.R (Kd.int .i64) 3 w' w.heap.size (fun k_ => some k_ ≠ (v238 : Value).ownBlock) v5 x5_2) ∧ Aside0 (Kd.R (Kd.int .i64) 3 w' w.heap.size (fun k_ => some k_ ≠ (v5 : Value).ownBlock) v238 t237) ∧ Aside0 (w'.heap[gb231]? = some (.cells #[(.slice A1_0 l1_0.length c1_0), .int .i64 a1_1, .int .i64 a1_2, .int .i64 a1_3, .int .i64 a1_4] 28 (0, 0))) ∧ Aside0 (Below w.heap.size w w'))
    case atStart => exact ⟨(y232), (a1_1), zS, H', ⟨Nat.le_refl _⟩, ⟨by (with_reducible repeat (first | apply Kd.R_alloc | apply Kd.R_drewN | apply Kd.R_drew)); exact Kd.R_mono HO_5.out (fun _ hk => hk.2)⟩, ⟨by (with_reducible repeat (first | apply Kd.R_alloc | apply Kd.R_drewN | apply Kd.R_drew)); exact Kd.R_mono HO239.out (fun _ hk => hk.2)⟩, ⟨zK BK231⟩, ⟨zH⟩⟩
    case round =>
     clear H'
     (try clear c16); (try clear hcz19_0); (try clear hcz19_1); (try clear hcz19_2); (try clear hcz19_3); (try clear hcz19_4); (try clear hfz19_0); (try clear hfz19_1); (try clear hfz19_2); (try clear hfz19_3); (try clear hfz19_4)
     obtain ⟨x5_2, x7_2, rfl, HA, HK2, HO_5, HO_6, BK231, HB⟩ := hrel
     cases gk with
     | zero => exact absurd HA.out (by simp [spec_RefineOf.l0])
     | succ k2 =>
      have H := HA.out
      clear HA
      simp only [spec_RefineOf.l0] at H
      by_cases c20 : x7_2 ≤ a1_2
      ·rw [if_pos c20] at H
       have c20b0 : decide (x7_2 ≤ a1_2) = true := decide_eq_true c20
       clear c20
       by_cases c21 : 0 ≤ x7_2
       ·rw [if_pos c21] at H
        have c21b0 : decide (0 ≤ x7_2) = true := decide_eq_true c21
        clear c21
        by_cases c22 : x7_2 < (t237.length : Int)
        ·rw [if_pos c22] at H
         have c22b0 : decide (x7_2 < (t237.length : Int)) = true := decide_eq_true c22
         clear c22
         obtain ⟨t241, A23, H⟩ := oH H
         by_cases c24 : 0 ≤ a1_4
         ·rw [if_pos c24] at H
          have c24b0 := eq_true c24
          have c24b1 : decide (0 ≤ a1_4) = true := decide_eq_true c24
          clear c24
          obtain ⟨ji25, hji25⟩ : ∃ j_ : Int, (shr .i64 t241 a1_4) = j_ := ⟨_, rfl⟩
          replace H : (if (rd t237 x7_2) < 0 then ((spec_l13Cut.f (rd t237 x7_2) a1_3).bind fun t244 => (if t244 = 0 then (if x5_2.length < 17592186044416 then (spec_RefineOf.l0 k2 (x5_2 ++ [wrap64 (-(Go.bits .and .i64 (ji25) 1))]) t237 (wrap64 (x7_2 + 1)) l1_0 a1_1 a1_2 a1_3 a1_4) else (none)) else (if x5_2.length < 17592186044416 then (spec_RefineOf.l0 k2 (x5_2 ++ [Go.bits .and .i64 (ji25) 1]) t237 (wrap64 (x7_2 + 1)) l1_0 a1_1 a1_2 a1_3 a1_4) else (none)))) else (if x5_2.length < 17592186044416 then (spec_RefineOf.l0 k2 (x5_2 ++ [Go.bits .and .i64 (ji25) 1]) t237 (wrap64 (x7_2 + 1)) l1_0 a1_1 a1_2 a1_3 a1_4) else (none))) = some r := by first | (rw [hji25] at H; exact H) | (simp only [hji25] at H ⊢; exact H)
          (try rw [hji25] at A23)
          have hji25_ : (t241 / 2 ^ min a1_4.toNat 64) = ji25 := hji25
          have hji25z : a1_4 ≤ 64 → (t241 / 2 ^ a1_4.toNat) = ji25 := shr_small hji25
          by_cases c26 : (rd t237 x7_2) < 0
          ·rw [if_pos c26] at H
           have c26b0 : decide ((rd t237 x7_2) < 0) = true := decide_eq_true c26
           clear c26
           obtain ⟨t244, A27, H⟩ := oH H
           by_cases c28 : t244 = 0
           ·rw [if_pos c28] at H
            have c28b0 : (t244 == 0) = true := beq_iff_eq.mpr c28
            have c28b1 : (t244 != 0) = false := bne_eq_false_iff_eq.mpr c28
            clear c28
            by_cases c29 : x5_2.length < 17592186044416
            ·rw [if_pos c29] at H
             have LMc29 := aM c29
             clear c29
             obtain ⟨y245, hy245⟩ : ∃ y_ : List Int, y_ = (x5_2 ++ [wrap64 (-(Go.bits .and .i64 (ji25) 1))]) := ⟨_, rfl⟩
             replace H : (spec_RefineOf.l0 k2 y245 t237 (wrap64 (x7_2 + 1)) l1_0 a1_1 a1_2 a1_3 a1_4) = some r := by first | (rw [hy245]; with_reducible exact H) | (have H2_ := (Option.bind_some _ _).symm.trans H; rw [hy245]; with_reducible exact H2_) | (have H2_ := (Option.bind_some _ _).symm.trans H; with_reducible exact H2_) | with_reducible exact H | (rw [hy245]; exact H) | exact H
             have Ny245 := aM hy245
             clear hy245
             have H' := aM H
             clear H
             obtain ⟨hcz30_0, hcz30_1, hcz30_2, hcz30_3, hcz30_4⟩ := kk5 BK231
             obtain ⟨hfz30_0, hfz30_1, hfz30_2, hfz30_3, hfz30_4⟩ := kg5 BK231
             obtain ⟨Ao31, co31, eo31⟩ := Kd.R_slice HO_6.out
             subst eo31
             have p240 : 0 ≤ (x7_2 : Int) := zA
             have q240 : x7_2 < (t237.length : Int) := zA
             obtain ⟨ad240, e240, hx240_0⟩ := Kd.at_int (Kd.R_reads' HO_6.out).2.2 x7_2 p240 q240
             cases e240
             replace p240 := eq_true p240
             replace q240 := eq_true q240
             repeat (go_wp2_with (first | (go_at_call 79; (with_reducible refine (spec_l07Abs.calls (rd t237 x7_2) t241 _ A23.out).mono ?_); rintro e w' ⟨rfl, ⟨nd, rfl⟩⟩; (try exact zD); have p242 : 0 ≤ (x7_2 : Int) := zA; have q242 : x7_2 < (t237.length : Int) := zA; obtain ⟨ad242, e242, hx242_0⟩ := Kd.at_int (Kd.R_reads' HO_6.out).2.2 x7_2 p242 q242; obtain rfl : ad240 = ad242 := (by injection e242); replace p242 := eq_true p242; replace q242 := eq_true q242; have p243 : 0 ≤ (x7_2 : Int) := zA; have q243 : x7_2 < (t237.length : Int) := zA; obtain ⟨ad243, e243, hx243_0⟩ := Kd.at_int (Kd.R_reads' HO_6.out).2.2 x7_2 p243 q243; obtain rfl : ad240 = ad243 := (by injection e243); replace p243 := eq_true p243; replace q243 := eq_true q243) | (go_at_call 72; (with_reducible refine (spec_l13Cut.calls (rd t237 x7_2) a1_3 t244 _ A27.out).mono ?_); rintro e w' ⟨rfl, ⟨nd, rfl⟩⟩; (try exact zD)) | ((with_reducible refine gate_builtin (b := .append) (xs := #[.tmp 60, .tmp 62]) rfl ?_); at_builtin; refine Kd.R_append (Kd.int .i64) (w0 := w) w.heap.size rfl (.tmp 60) (.tmp 62) 22 3 (.int .i64 0) 8 rfl Try.underlying22 info3 rfl (by decide) (by omega) u5 x5_2 (wrap64 (-(Go.bits .and .i64 (ji25) 1))) [.int .i64 (wrap64 (-(Go.bits .and .i64 (ji25) 1)))] (fun k_ => some k_ ≠ (.slice (some ad240) t237.length co31 : Value).ownBlock) (fun _ => False) rfl rfl ?aP (fun _ hk => hk.elim) ?aF ?aO ?aB ?aS ?aL ?_; (case aP => exact rfl); (case aB => exact zH); (case aF => exact (fun k_ hk => Kd.fresh' (Kd.R_lt (by (with_reducible repeat (first | apply Kd.R_alloc | apply Kd.R_drewN | apply Kd.R_drew)); exact HO_6.out)) k_ hk)); (case aO => exact (by (with_reducible repeat (first | apply Kd.R_alloc | apply Kd.R_drewN | apply Kd.R_drew)); exact HO_5.out)); (case aS => exact (below_size zH)); (case aL => have := LMc29.out; omega); intro v246 w32 ho hb hg hat; rw [← Ny245.out] at ho; replace HO_6 := aM (Kd.R_after (ok := (fun _ => True)) (by (with_reducible repeat (first | apply Kd.R_alloc | apply Kd.R_drewN | apply Kd.R_drew)); exact Kd.R_mono HO_6.out (fun _ hk => ⟨trivial, hk⟩)) hg hat); replace BK231 := aM (blk_grown (g := gb231) (o := .cells #[.slice A1_0 l1_0.length c1_0, .int .i64 a1_1, .int .i64 a1_2, .int .i64 a1_3, .int .i64 a1_4] 28 (0, 0)) (zK BK231) hg (Kd.R_ne HO_5.out BK231.out (by decide))); replace HB := aM (hb); have HO247 := aM (ho); clear HO_5; clear ho hb hg hat)); go_quiet (first | (go_at_call 79; (with_reducible refine (spec_l07Abs.calls (rd t237 x7_2) t241 _ A23.out).mono ?_); rintro e w' ⟨rfl, ⟨nd, rfl⟩⟩; (try exact zD); have p242 : 0 ≤ (x7_2 : Int) := zA; have q242 : x7_2 < (t237.length : Int) := zA; obtain ⟨ad242, e242, hx242_0⟩ := Kd.at_int (Kd.R_reads' HO_6.out).2.2 x7_2 p242 q242; obtain rfl : ad240 = ad242 := (by injection e242); replace p242 := eq_true p242; replace q242 := eq_true q242; have p243 : 0 ≤ (x7_2 : Int) := zA; have q243 : x7_2 < (t237.length : Int) := zA; obtain ⟨ad243, e243, hx243_0⟩ := Kd.at_int (Kd.R_reads' HO_6.out).2.2 x7_2 p243 q243; obtain rfl : ad240 = ad243 := (by injection e243); replace p243 := eq_true p243; replace q243 := eq_true q243) | (go_at_call 72; (with_reducible refine (spec_l13Cut.calls (rd t237 x7_2) a1_3 t244 _ A27.out).mono ?_); rintro e w' ⟨rfl, ⟨nd, rfl⟩⟩; (try exact zD))))
             try go_wp2_with (first | (go_at_call 79; (with_reducible refine (spec_l07Abs.calls (rd t237 x7_2) t241 _ A23.out).mono ?_); rintro e w' ⟨rfl, ⟨nd, rfl⟩⟩; (try exact zD); have p242 : 0 ≤ (x7_2 : Int) := zA; have q242 : x7_2 < (t237.length : Int) := zA; obtain ⟨ad242, e242, hx242_0⟩ := Kd.at_int (Kd.R_reads' HO_6.out).2.2 x7_2 p242 q242; obtain rfl : ad240 = ad242 := (by injection e242); replace p242 := eq_true p242; replace q242 := eq_true q242; have p243 : 0 ≤ (x7_2 : Int) := zA; have q243 : x7_2 < (t237.length : Int) := zA; obtain ⟨ad243, e243, hx243_0⟩ := Kd.at_int (Kd.R_reads' HO_6.out).2.2 x7_2 p243 q243; obtain rfl : ad240 = ad243 := (by injection e243); replace p243 := eq_true p243; replace q243 := eq_true q243) | (go_at_call 72; (with_reducible refine (spec_l13Cut.calls (rd t237 x7_2) a1_3 t244 _ A27.out).mono ?_); rintro e w' ⟨rfl, ⟨nd, rfl⟩⟩; (try exact zD)) | ((with_reducible refine gate_builtin (b := .append) (xs := #[.tmp 60, .tmp 62]) rfl ?_); at_builtin; refine Kd.R_append (Kd.int .i64) (w0 := w) w.heap.size rfl (.tmp 60) (.tmp 62) 22 3 (.int .i64 0) 8 rfl Try.underlying22 info3 rfl (by decide) (by omega) u5 x5_2 (wrap64 (-(Go.bits .and .i64 (ji25) 1))) [.int .i64 (wrap64 (-(Go.bits .and .i64 (ji25) 1)))] (fun k_ => some k_ ≠ (.slice (some ad240) t237.length co31 : Value).ownBlock) (fun _ => False) rfl rfl ?aP (fun _ hk => hk.elim) ?aF ?aO ?aB ?aS ?aL ?_; (case aP => exact rfl); (case aB => exact zH); (case aF => exact (fun k_ hk => Kd.fresh' (Kd.R_lt (by (with_reducible repeat (first | apply Kd.R_alloc | apply Kd.R_drewN | apply Kd.R_drew)); exact HO_6.out)) k_ hk)); (case aO => exact (by (with_reducible repeat (first | apply Kd.R_alloc | apply Kd.R_drewN | apply Kd.R_drew)); exact HO_5.out)); (case aS => exact (below_size zH)); (case aL => have := LMc29.out; omega); intro v246 w32 ho hb hg hat; rw [← Ny245.out] at ho; replace HO_6 := aM (Kd.R_after (ok := (fun _ => True)) (by (with_reducible repeat (first | apply Kd.R_alloc | apply Kd.R_drewN | apply Kd.R_drew)); exact Kd.R_mono HO_6.out (fun _ hk => ⟨trivial, hk⟩)) hg hat); replace BK231 := aM (blk_grown (g := gb231) (o := .cells #[.slice A1_0 l1_0.length c1_0, .int .i64 a1_1, .int .i64 a1_2, .int .i64 a1_3, .int .i64 a1_4] 28 (0, 0)) (zK BK231) hg (Kd.R_ne HO_5.out BK231.out (by decide))); replace HB := aM (hb); have HO247 := aM (ho); clear HO_5; clear ho hb hg hat))
             go_roundg k2
             case measure => have := HJ2.out; have := HK2.out; omega
             case rel => exact ⟨(y245), (wrap64 (x7_2 + 1)), zS, H', ⟨by have := HJ2.out; have := HK2.out; omega⟩, ⟨by (with_reducible repeat (first | apply Kd.R_alloc | apply Kd.R_drewN | apply Kd.R_drew)); exact HO247.out⟩, ⟨by (with_reducible repeat (first | apply Kd.R_alloc | apply Kd.R_drewN | apply Kd.R_drew)); exact Kd.R_mono HO_6.out (fun _ hk => hk.2)⟩, ⟨zK BK231⟩, ⟨zH⟩⟩
            ·rw [if_neg c29] at H
             exact absurd H (by simp)
           ·rw [if_neg c28] at H
            have c28b0 : (t244 == 0) = false := beq_eq_false_iff_ne.mpr c28
            have c28b1 : (t244 != 0) = true := bne_iff_ne.mpr c28
            by_cases c33 : x5_2.length < 17592186044416
            ·rw [if_pos c33] at H
             have LMc33 := aM c33
             clear c33
             obtain ⟨y248, hy248⟩ : ∃ y_ : List Int, y_ = (x5_2 ++ [Go.bits .and .i64 (ji25) 1]) := ⟨_, rfl⟩
             replace H : (spec_RefineOf.l0 k2 y248 t237 (wrap64 (x7_2 + 1)) l1_0 a1_1 a1_2 a1_3 a1_4) = some r := by first | (rw [hy248]; with_reducible exact H) | (have H2_ := (Option.bind_some _ _).symm.trans H; rw [hy248]; with_reducible exact H2_) | (have H2_ := (Option.bind_some _ _).symm.trans H; with_reducible exact H2_) | with_reducible exact H | (rw [hy248]; exact H) | exact H
             have Ny248 := aM hy248
             clear hy248
             have H' := aM H
             clear H
             obtain ⟨hcz34_0, hcz34_1, hcz34_2, hcz34_3, hcz34_4⟩ := kk5 BK231
             obtain ⟨hfz34_0, hfz34_1, hfz34_2, hfz34_3, hfz34_4⟩ := kg5 BK231
             obtain ⟨Ao35, co35, eo35⟩ := Kd.R_slice HO_6.out
             subst eo35
             have p240 : 0 ≤ (x7_2 : Int) := zA
             have q240 : x7_2 < (t237.length : Int) := zA
             obtain ⟨ad240, e240, hx240_0⟩ := Kd.at_int (Kd.R_reads' HO_6.out).2.2 x7_2 p240 q240
             cases e240
             replace p240 := eq_true p240
             replace q240 := eq_true q240
             repeat (go_wp2_with (first | (go_at_call 79; (with_reducible refine (spec_l07Abs.calls (rd t237 x7_2) t241 _ A23.out).mono ?_); rintro e w' ⟨rfl, ⟨nd, rfl⟩⟩; (try exact zD); have p242 : 0 ≤ (x7_2 : Int) := zA; have q242 : x7_2 < (t237.length : Int) := zA; obtain ⟨ad242, e242, hx242_0⟩ := Kd.at_int (Kd.R_reads' HO_6.out).2.2 x7_2 p242 q242; obtain rfl : ad240 = ad242 := (by injection e242); replace p242 := eq_true p242; replace q242 := eq_true q242; have p243 : 0 ≤ (x7_2 : Int) := zA; have q243 : x7_2 < (t237.length : Int) := zA; obtain ⟨ad243, e243, hx243_0⟩ := Kd.at_int (Kd.R_reads' HO_6.out).2.2 x7_2 p243 q243; obtain rfl : ad240 = ad243 := (by injection e243); replace p243 := eq_true p243; replace q243 := eq_true q243) | (go_at_call 72; (with_reducible refine (spec_l13Cut.calls (rd t237 x7_2) a1_3 t244 _ A27.out).mono ?_); rintro e w' ⟨rfl, ⟨nd, rfl⟩⟩; (try exact zD)) | ((with_reducible refine gate_builtin (b := .append) (xs := #[.tmp 60, .tmp 62]) rfl ?_); at_builtin; refine Kd.R_append (Kd.int .i64) (w0 := w) w.heap.size rfl (.tmp 60) (.tmp 62) 22 3 (.int .i64 0) 8 rfl Try.underlying22 info3 rfl (by decide) (by omega) u5 x5_2 (Go.bits .and .i64 (ji25) 1) [.int .i64 (Go.bits .and .i64 (ji25) 1)] (fun k_ => some k_ ≠ (.slice (some ad240) t237.length co35 : Value).ownBlock) (fun _ => False) rfl rfl ?aP (fun _ hk => hk.elim) ?aF ?aO ?aB ?aS ?aL ?_; (case aP => exact rfl); (case aB => exact zH); (case aF => exact (fun k_ hk => Kd.fresh' (Kd.R_lt (by (with_reducible repeat (first | apply Kd.R_alloc | apply Kd.R_drewN | apply Kd.R_drew)); exact HO_6.out)) k_ hk)); (case aO => exact (by (with_reducible repeat (first | apply Kd.R_alloc | apply Kd.R_drewN | apply Kd.R_drew)); exact HO_5.out)); (case aS => exact (below_size zH)); (case aL => have := LMc33.out; omega); intro v249 w36 ho hb hg hat; rw [← Ny248.out] at ho; replace HO_6 := aM (Kd.R_after (ok := (fun _ => True)) (by (with_reducible repeat (first | apply Kd.R_alloc | apply Kd.R_drewN | apply Kd.R_drew)); exact Kd.R_mono HO_6.out (fun _ hk => ⟨trivial, hk⟩)) hg hat); replace BK231 := aM (blk_grown (g := gb231) (o := .cells #[.slice A1_0 l1_0.length c1_0, .int .i64 a1_1, .int .i64 a1_2, .int .i64 a1_3, .int .i64 a1_4] 28 (0, 0)) (zK BK231) hg (Kd.R_ne HO_5.out BK231.out (by decide))); replace HB := aM (hb); have HO250 := aM (ho); clear HO_5; clear ho hb hg hat)); go_quiet (first | (go_at_call 79; (with_reducible refine (spec_l07Abs.calls (rd t237 x7_2) t241 _ A23.out).mono ?_); rintro e w' ⟨rfl, ⟨nd, rfl⟩⟩; (try exact zD); have p242 : 0 ≤ (x7_2 : Int) := zA; have q242 : x7_2 < (t237.length : Int) := zA; obtain ⟨ad242, e242, hx242_0⟩ := Kd.at_int (Kd.R_reads' HO_6.out).2.2 x7_2 p242 q242; obtain rfl : ad240 = ad242 := (by injection e242); replace p242 := eq_true p242; replace q242 := eq_true q242; have p243 : 0 ≤ (x7_2 : Int) := zA; have q243 : x7_2 < (t237.length : Int) := zA; obtain ⟨ad243, e243, hx243_0⟩ := Kd.at_int (Kd.R_reads' HO_6.out).2.2 x7_2 p243 q243; obtain rfl : ad240 = ad243 := (by injection e243); replace p243 := eq_true p243; replace q243 := eq_true q243) | (go_at_call 72; (with_reducible refine (spec_l13Cut.calls (rd t237 x7_2) a1_3 t244 _ A27.out).mono ?_); rintro e w' ⟨rfl, ⟨nd, rfl⟩⟩; (try exact zD))))
             try go_wp2_with (first | (go_at_call 79; (with_reducible refine (spec_l07Abs.calls (rd t237 x7_2) t241 _ A23.out).mono ?_); rintro e w' ⟨rfl, ⟨nd, rfl⟩⟩; (try exact zD); have p242 : 0 ≤ (x7_2 : Int) := zA; have q242 : x7_2 < (t237.length : Int) := zA; obtain ⟨ad242, e242, hx242_0⟩ := Kd.at_int (Kd.R_reads' HO_6.out).2.2 x7_2 p242 q242; obtain rfl : ad240 = ad242 := (by injection e242); replace p242 := eq_true p242; replace q242 := eq_true q242; have p243 : 0 ≤ (x7_2 : Int) := zA; have q243 : x7_2 < (t237.length : Int) := zA; obtain ⟨ad243, e243, hx243_0⟩ := Kd.at_int (Kd.R_reads' HO_6.out).2.2 x7_2 p243 q243; obtain rfl : ad240 = ad243 := (by injection e243); replace p243 := eq_true p243; replace q243 := eq_true q243) | (go_at_call 72; (with_reducible refine (spec_l13Cut.calls (rd t237 x7_2) a1_3 t244 _ A27.out).mono ?_); rintro e w' ⟨rfl, ⟨nd, rfl⟩⟩; (try exact zD)) | ((with_reducible refine gate_builtin (b := .append) (xs := #[.tmp 60, .tmp 62]) rfl ?_); at_builtin; refine Kd.R_append (Kd.int .i64) (w0 := w) w.heap.size rfl (.tmp 60) (.tmp 62) 22 3 (.int .i64 0) 8 rfl Try.underlying22 info3 rfl (by decide) (by omega) u5 x5_2 (Go.bits .and .i64 (ji25) 1) [.int .i64 (Go.bits .and .i64 (ji25) 1)] (fun k_ => some k_ ≠ (.slice (some ad240) t237.length co35 : Value).ownBlock) (fun _ => False) rfl rfl ?aP (fun _ hk => hk.elim) ?aF ?aO ?aB ?aS ?aL ?_; (case aP => exact rfl); (case aB => exact zH); (case aF => exact (fun k_ hk => Kd.fresh' (Kd.R_lt (by (with_reducible repeat (first | apply Kd.R_alloc | apply Kd.R_drewN | apply Kd.R_drew)); exact HO_6.out)) k_ hk)); (case aO => exact (by (with_reducible repeat (first | apply Kd.R_alloc | apply Kd.R_drewN | apply Kd.R_drew)); exact HO_5.out)); (case aS => exact (below_size zH)); (case aL => have := LMc33.out; omega); intro v249 w36 ho hb hg hat; rw [← Ny248.out] at ho; replace HO_6 := aM (Kd.R_after (ok := (fun _ => True)) (by (with_reducible repeat (first | apply Kd.R_alloc | apply Kd.R_drewN | apply Kd.R_drew)); exact Kd.R_mono HO_6.out (fun _ hk => ⟨trivial, hk⟩)) hg hat); replace BK231 := aM (blk_grown (g := gb231) (o := .cells #[.slice A1_0 l1_0.length c1_0, .int .i64 a1_1, .int .i64 a1_2, .int .i64 a1_3, .int .i64 a1_4] 28 (0, 0)) (zK BK231) hg (Kd.R_ne HO_5.out BK231.out (by decide))); replace HB := aM (hb); have HO250 := aM (ho); clear HO_5; clear ho hb hg hat))
             go_roundg k2
             case measure => have := HJ2.out; have := HK2.out; omega
             case rel => exact ⟨(y248), (wrap64 (x7_2 + 1)), zS, H', ⟨by have := HJ2.out; have := HK2.out; omega⟩, ⟨by (with_reducible repeat (first | apply Kd.R_alloc | apply Kd.R_drewN | apply Kd.R_drew)); exact HO250.out⟩, ⟨by (with_reducible repeat (first | apply Kd.R_alloc | apply Kd.R_drewN | apply Kd.R_drew)); exact Kd.R_mono HO_6.out (fun _ hk => hk.2)⟩, ⟨zK BK231⟩, ⟨zH⟩⟩
            ·rw [if_neg c33] at H
             exact absurd H (by simp)
          ·rw [if_neg c26] at H
           have c26b0 : decide ((rd t237 x7_2) < 0) = false := decide_eq_false c26
           clear c26
           by_cases c37 : x5_2.length < 17592186044416
           ·rw [if_pos c37] at H
            have LMc37 := aM c37
            clear c37
            obtain ⟨y251, hy251⟩ : ∃ y_ : List Int, y_ = (x5_2 ++ [Go.bits .and .i64 (ji25) 1]) := ⟨_, rfl⟩
            replace H : (spec_RefineOf.l0 k2 y251 t237 (wrap64 (x7_2 + 1)) l1_0 a1_1 a1_2 a1_3 a1_4) = some r := by first | (rw [hy251]; with_reducible exact H) | (have H2_ := (Option.bind_some _ _).symm.trans H; rw [hy251]; with_reducible exact H2_) | (have H2_ := (Option.bind_some _ _).symm.trans H; with_reducible exact H2_) | with_reducible exact H | (rw [hy251]; exact H) | exact H
            have Ny251 := aM hy251
            clear hy251
            have H' := aM H
            clear H
            obtain ⟨hcz38_0, hcz38_1, hcz38_2, hcz38_3, hcz38_4⟩ := kk5 BK231
            obtain ⟨hfz38_0, hfz38_1, hfz38_2, hfz38_3, hfz38_4⟩ := kg5 BK231
            obtain ⟨Ao39, co39, eo39⟩ := Kd.R_slice HO_6.out
            subst eo39
            have p240 : 0 ≤ (x7_2 : Int) := zA
            have q240 : x7_2 < (t237.length : Int) := zA
            obtain ⟨ad240, e240, hx240_0⟩ := Kd.at_int (Kd.R_reads' HO_6.out).2.2 x7_2 p240 q240
            cases e240
            replace p240 := eq_true p240
            replace q240 := eq_true q240
            repeat (go_wp2_with (first | (go_at_call 79; (with_reducible refine (spec_l07Abs.calls (rd t237 x7_2) t241 _ A23.out).mono ?_); rintro e w' ⟨rfl, ⟨nd, rfl⟩⟩; (try exact zD); have p242 : 0 ≤ (x7_2 : Int) := zA; have q242 : x7_2 < (t237.length : Int) := zA; obtain ⟨ad242, e242, hx242_0⟩ := Kd.at_int (Kd.R_reads' HO_6.out).2.2 x7_2 p242 q242; obtain rfl : ad240 = ad242 := (by injection e242); replace p242 := eq_true p242; replace q242 := eq_true q242) | ((with_reducible refine gate_builtin (b := .append) (xs := #[.tmp 60, .tmp 62]) rfl ?_); at_builtin; refine Kd.R_append (Kd.int .i64) (w0 := w) w.heap.size rfl (.tmp 60) (.tmp 62) 22 3 (.int .i64 0) 8 rfl Try.underlying22 info3 rfl (by decide) (by omega) u5 x5_2 (Go.bits .and .i64 (ji25) 1) [.int .i64 (Go.bits .and .i64 (ji25) 1)] (fun k_ => some k_ ≠ (.slice (some ad240) t237.length co39 : Value).ownBlock) (fun _ => False) rfl rfl ?aP (fun _ hk => hk.elim) ?aF ?aO ?aB ?aS ?aL ?_; (case aP => exact rfl); (case aB => exact zH); (case aF => exact (fun k_ hk => Kd.fresh' (Kd.R_lt (by (with_reducible repeat (first | apply Kd.R_alloc | apply Kd.R_drewN | apply Kd.R_drew)); exact HO_6.out)) k_ hk)); (case aO => exact (by (with_reducible repeat (first | apply Kd.R_alloc | apply Kd.R_drewN | apply Kd.R_drew)); exact HO_5.out)); (case aS => exact (below_size zH)); (case aL => have := LMc37.out; omega); intro v252 w40 ho hb hg hat; rw [← Ny251.out] at ho; replace HO_6 := aM (Kd.R_after (ok := (fun _ => True)) (by (with_reducible repeat (first | apply Kd.R_alloc | apply Kd.R_drewN | apply Kd.R_drew)); exact Kd.R_mono HO_6.out (fun _ hk => ⟨trivial, hk⟩)) hg hat); replace BK231 := aM (blk_grown (g := gb231) (o := .cells #[.slice A1_0 l1_0.length c1_0, .int .i64 a1_1, .int .i64 a1_2, .int .i64 a1_3, .int .i64 a1_4] 28 (0, 0)) (zK BK231) hg (Kd.R_ne HO_5.out BK231.out (by decide))); replace HB := aM (hb); have HO253 := aM (ho); clear HO_5; clear ho hb hg hat)); go_quiet (first | (go_at_call 79; (with_reducible refine (spec_l07Abs.calls (rd t237 x7_2) t241 _ A23.out).mono ?_); rintro e w' ⟨rfl, ⟨nd, rfl⟩⟩; (try exact zD); have p242 : 0 ≤ (x7_2 : Int) := zA; have q242 : x7_2 < (t237.length : Int) := zA; obtain ⟨ad242, e242, hx242_0⟩ := Kd.at_int (Kd.R_reads' HO_6.out).2.2 x7_2 p242 q242; obtain rfl : ad240 = ad242 := (by injection e242); replace p242 := eq_true p242; replace q242 := eq_true q242)))
            try go_wp2_with (first | (go_at_call 79; (with_reducible refine (spec_l07Abs.calls (rd t237 x7_2) t241 _ A23.out).mono ?_); rintro e w' ⟨rfl, ⟨nd, rfl⟩⟩; (try exact zD); have p242 : 0 ≤ (x7_2 : Int) := zA; have q242 : x7_2 < (t237.length : Int) := zA; obtain ⟨ad242, e242, hx242_0⟩ := Kd.at_int (Kd.R_reads' HO_6.out).2.2 x7_2 p242 q242; obtain rfl : ad240 = ad242 := (by injection e242); replace p242 := eq_true p242; replace q242 := eq_true q242) | ((with_reducible refine gate_builtin (b := .append) (xs := #[.tmp 60, .tmp 62]) rfl ?_); at_builtin; refine Kd.R_append (Kd.int .i64) (w0 := w) w.heap.size rfl (.tmp 60) (.tmp 62) 22 3 (.int .i64 0) 8 rfl Try.underlying22 info3 rfl (by decide) (by omega) u5 x5_2 (Go.bits .and .i64 (ji25) 1) [.int .i64 (Go.bits .and .i64 (ji25) 1)] (fun k_ => some k_ ≠ (.slice (some ad240) t237.length co39 : Value).ownBlock) (fun _ => False) rfl rfl ?aP (fun _ hk => hk.elim) ?aF ?aO ?aB ?aS ?aL ?_; (case aP => exact rfl); (case aB => exact zH); (case aF => exact (fun k_ hk => Kd.fresh' (Kd.R_lt (by (with_reducible repeat (first | apply Kd.R_alloc | apply Kd.R_drewN | apply Kd.R_drew)); exact HO_6.out)) k_ hk)); (case aO => exact (by (with_reducible repeat (first | apply Kd.R_alloc | apply Kd.R_drewN | apply Kd.R_drew)); exact HO_5.out)); (case aS => exact (below_size zH)); (case aL => have := LMc37.out; omega); intro v252 w40 ho hb hg hat; rw [← Ny251.out] at ho; replace HO_6 := aM (Kd.R_after (ok := (fun _ => True)) (by (with_reducible repeat (first | apply Kd.R_alloc | apply Kd.R_drewN | apply Kd.R_drew)); exact Kd.R_mono HO_6.out (fun _ hk => ⟨trivial, hk⟩)) hg hat); replace BK231 := aM (blk_grown (g := gb231) (o := .cells #[.slice A1_0 l1_0.length c1_0, .int .i64 a1_1, .int .i64 a1_2, .int .i64 a1_3, .int .i64 a1_4] 28 (0, 0)) (zK BK231) hg (Kd.R_ne HO_5.out BK231.out (by decide))); replace HB := aM (hb); have HO253 := aM (ho); clear HO_5; clear ho hb hg hat))
            go_roundg k2
            case measure => have := HJ2.out; have := HK2.out; omega
            case rel => exact ⟨(y251), (wrap64 (x7_2 + 1)), zS, H', ⟨by have := HJ2.out; have := HK2.out; omega⟩, ⟨by (with_reducible repeat (first | apply Kd.R_alloc | apply Kd.R_drewN | apply Kd.R_drew)); exact HO253.out⟩, ⟨by (with_reducible repeat (first | apply Kd.R_alloc | apply Kd.R_drewN | apply Kd.R_drew)); exact Kd.R_mono HO_6.out (fun _ hk => hk.2)⟩, ⟨zK BK231⟩, ⟨zH⟩⟩
           ·rw [if_neg c37] at H
            exact absurd H (by simp)
         ·rw [if_neg c24] at H
          exact absurd H (by simp)
        ·rw [if_neg c22] at H
         exact absurd H (by simp)
       ·rw [if_neg c21] at H
        exact absurd H (by simp)
      ·rw [if_neg c20] at H
       have c20b0 : decide (x7_2 ≤ a1_2) = false := decide_eq_false c20
       clear c20
       obtain rfl := Option.some.inj H
       obtain ⟨hcz41_0, hcz41_1, hcz41_2, hcz41_3, hcz41_4⟩ := kk5 BK231
       obtain ⟨hfz41_0, hfz41_1, hfz41_2, hfz41_3, hfz41_4⟩ := kg5 BK231
       go_wp2
       repeat (go_quiet (fail); try go_wp2)
       go_ret
       exact ⟨_, zR, by (with_reducible repeat (first | apply Kd.R_alloc | apply Kd.R_drewN | apply Kd.R_drew)); exact Kd.R_mono HO_5.out (fun _ hk => trivial), zH⟩

/-- A number of a refining pass. -/
def refB (n low high : Int) : Int := if n < 0 ∧ cutI n high = 0 then wrap64 (-(Go.bits .and .i64 (shr .i64 (absI n) low) 1)) else Go.bits .and .i64 (shr .i64 (absI n) low) 1
def refN (z : List Int) (f low high : Int) (m : Nat) : List Int := (List.range m).map fun (i : Nat) => refB (rd z (f + i)) low high
theorem refN_length (z : List Int) (f low high : Int) (m : Nat) : (refN z f low high m).length = m := by simp [refN]
theorem refN_succ (z : List Int) (f low high : Int) (m : Nat) : refN z f low high (m + 1) = refN z f low high m ++ [refB (rd z (f + m)) low high] := by simp [refN, List.range_succ]
def refI (b : List Int) (f t h l : Int) : List Int := if numsB b (-16383) 16383 = true ∧ passB f t h l = true ∧ ¬ h = 0 then refN (toZ b) f l h (t - f + 1).toNat else []
theorem refI_length (b : List Int) (f t h l : Int) : (refI b f t h l).length ≤ 64 := by
  unfold refI
  split
  · rename_i h
    obtain ⟨p1, p2, p3, p4, p5, _⟩ := pass_bounds h.2.1
    rw [refN_length]
    omega
  · simp
theorem sRef_l0 (z : List Int) (hz : z.length = 64) (hb : ∀ i, -32767 ≤ rd z i ∧ rd z i ≤ 32767) (c : List Int) (f t h low : Int) (h0 : 0 ≤ f) (h1 : f ≤ t) (h2 : t ≤ 63) (h3 : 0 ≤ low) (h4 : low ≤ 13) (h5 : 0 ≤ h) (h6 : h ≤ 14) :
    ∀ (d m : Nat), (m : Int) + d = t - f + 1 → Ev (fun k => spec_RefineOf.l0 k (refN z f low h m) z (f + m) c f t h low) (refN z f low h (t - f + 1).toNat) := by
  intro d
  induction d with
  | zero =>
    intro m hm
    refine Ev.step (fun k => by rw [spec_RefineOf.l0]) ?_
    rw [show (t - f + 1).toNat = m from by omega]
    exact evNeg (by omega) (Ev.now _)
  | succ d ih =>
    intro m hm
    have hn := ih (m + 1) (by omega)
    rw [refN_succ, show f + ((m + 1 : Nat) : Int) = f + m + 1 from by omega] at hn
    refine Ev.step (fun k => by rw [spec_RefineOf.l0]) ?_
    refine evPos (by omega) (evPos (by omega) (evPos (by omega) (evBind (evConst (abs_f _ (hb _))) (evPos h3 ?_))))
    rw [w64 (x := f + (m : Int) + 1) (by omega) (by omega)]
    unfold refB at hn
    refine evIf (fun hc => evBind (evConst (l13_f _ _ (hb _) h5 (by omega))) (evIf (fun hz => ?_) (fun hz => ?_))) (fun hc => ?_)
    · rw [if_pos ⟨hc, hz⟩] at hn
      exact evPos (by rw [refN_length]; omega) hn
    · rw [if_neg (fun h => hz h.2)] at hn
      exact evPos (by rw [refN_length]; omega) hn
    · rw [if_neg (fun h => hc h.1)] at hn
      exact evPos (by rw [refN_length]; omega) hn
theorem sRefineOf_f (b c : List Int) (f t h l : Int) : Ev (fun k => spec_RefineOf.f k b c f t h l) (refI b f t h l) := by
  have no : ¬ (numsB b (-16383) 16383 = true ∧ passB f t h l = true ∧ ¬ h = 0) → Ev (fun k => spec_RefineOf.j0 k b [] true c f t h l) (refI b f t h l) := fun hn => by
    unfold refI
    rw [if_neg hn]
    exact Ev.step (fun k => by rw [spec_RefineOf.j0]) (evPos rfl (Ev.now _))
  unfold spec_RefineOf.f
  simp only [Option.bind_some]
  refine evBind (sLevel_f b) (evIf (fun hl => ?_) (fun hl => no (fun h => hl h.1)))
  refine evBind (evConst (l12_f c f t h l)) (evIf (fun hp => ?_) (fun hp => no (fun h => hp h.2.1)))
  by_cases hh : h = 0
  · rw [show (h == 0) = true from by simp [hh]]
    exact no (fun h => h.2.2 hh)
  · obtain ⟨p1, p2, p3, p4, p5, p6⟩ := pass_bounds hp
    rw [show (h == 0) = false from by simp [hh]]
    refine Ev.step (fun k => by rw [spec_RefineOf.j0]) (evNeg (by simp) ?_)
    refine evBind (sToZig_f b (nums_of hl (by omega) (by omega))) ?_
    have := sRef_l0 (toZ b) (toZ_length b) (toZ_small hl) c f t h l p1 p2 p3 p4 p5 (by omega) (by omega) (t - f + 1).toNat 0 (by omega)
    unfold refI
    rw [if_pos ⟨hl, hp, hh⟩]
    simpa [refN] using this

/-! ### impl_refineOf: function 80 -/
def impl_refineOf.l0 : Nat → List Int → List Int → List Int → Int → List Int → Int → Int → Int → Int → Option (List Int)
  | 0, _, _, _, _, _, _, _, _, _ => none
  | k + 1, x0, x5, x6, x7, x255000, x255001, x255002, x255003, x255004 => if x7 ≤ x255002 then (if 0 ≤ x7 then (if x7 < (x6.length : Int) then (if 0 ≤ (rd x6 x7) then (if (rd x6 x7) < (x0.length : Int) then (if 0 ≤ x255004 then (if (rd x0 (rd x6 x7)) < 0 then (if 0 ≤ x255003 then (if (shl .i64 1 x255003) = 0 then (none) else (if (wrap64 (Int.tdiv (rd x0 (rd x6 x7)) (shl .i64 1 x255003))) = 0 then (if x5.length < 17592186044416 then (impl_refineOf.l0 k x0 (x5 ++ [wrap64 (-(Go.bits .and .i64 (shr .i64 (mx (rd x0 (rd x6 x7)) (wrap64 (-(rd x0 (rd x6 x7))))) x255004) 1))]) x6 (wrap64 (x7 + 1)) x255000 x255001 x255002 x255003 x255004) else (none)) else (if x5.length < 17592186044416 then (impl_refineOf.l0 k x0 (x5 ++ [Go.bits .and .i64 (shr .i64 (mx (rd x0 (rd x6 x7)) (wrap64 (-(rd x0 (rd x6 x7))))) x255004) 1]) x6 (wrap64 (x7 + 1)) x255000 x255001 x255002 x255003 x255004) else (none)))) else (none)) else (if x5.length < 17592186044416 then (impl_refineOf.l0 k x0 (x5 ++ [Go.bits .and .i64 (shr .i64 (mx (rd x0 (rd x6 x7)) (wrap64 (-(rd x0 (rd x6 x7))))) x255004) 1]) x6 (wrap64 (x7 + 1)) x255000 x255001 x255002 x255003 x255004) else (none))) else (none)) else (none)) else (none)) else (none)) else (none)) else (some x5)
def impl_refineOf.f (k : Nat) (l0 : List Int) (l1_0 : List Int) (a1_1 : Int) (a1_2 : Int) (a1_3 : Int) (a1_4 : Int) : Option (List Int) := (impl_zigZag.f k).bind fun t258 => (impl_refineOf.l0 k l0 (([] : List Int)) t258 a1_1 l1_0 a1_1 a1_2 a1_3 a1_4)
set_option maxHeartbeats 8000000 in
set_option maxRecDepth 100000 in
theorem impl_refineOf.calls (k : Nat) (A0 : Option Addr) (c0 : Nat) (l0 : List Int) (A1_0 : Option Addr) (c1_0 : Nat) (l1_0 : List Int) (a1_1 : Int) (a1_2 : Int) (a1_3 : Int) (a1_4 : Int) (r : List Int) (w : World) (hr0 : Kd.C (Kd.int .i64) w A0 l0.length l0) (hc0 : l0.length ≤ c0) (hr1_0 : Kd.C (Kd.int .i64) w A1_0 l1_0.length l1_0) (hc1_0 : l1_0.length ≤ c1_0) (h : impl_refineOf.f k l0 l1_0 a1_1 a1_2 a1_3 a1_4 = some r) :
  Calls Try.prog 80 #[.slice A0 l0.length c0, .agg #[.slice A1_0 l1_0.length c1_0, .int .i64 a1_1, .int .i64 a1_2, .int .i64 a1_3, .int .i64 a1_4]] w fun e w' => ∃ v0_ : Value, e = .returned (v0_) ∧ Kd.R (Kd.int .i64) 3 w' w.heap.size (fun _ => True) v0_ r ∧ Below w.heap.size w w' := by
 have hu28 := Try.underlying28
 have HR0 := aM hr0
 have HC0 := aM hc0
 clear hr0 hc0
 have HR1_0 := aM hr1_0
 have HC1_0 := aM hc1_0
 clear hr1_0 hc1_0
 have HB := aM (Below.refl w.heap.size w)
 have H : ((impl_zigZag.f k).bind fun t258 => (impl_refineOf.l0 k l0 (([] : List Int)) t258 a1_1 l1_0 a1_1 a1_2 a1_3 a1_4)) = some r := h
 clear h
 obtain ⟨y255, hy255⟩ : ∃ y_ : List Int, y_ = (([] : List Int)) := ⟨_, rfl⟩
 replace H : ((impl_zigZag.f k).bind fun t258 => (impl_refineOf.l0 k l0 y255 t258 a1_1 l1_0 a1_1 a1_2 a1_3 a1_4)) = some r := by first | (rw [hy255]; with_reducible exact H) | (have H2_ := (Option.bind_some _ _).symm.trans H; rw [hy255]; with_reducible exact H2_) | (have H2_ := (Option.bind_some _ _).symm.trans H; with_reducible exact H2_) | with_reducible exact H | (rw [hy255]; exact H) | exact H
 have Ny255 := aM hy255
 clear hy255
 obtain ⟨t258, A3, H⟩ := oH H
 have H' := aM H
 clear H
 go_enter Try.func80, Try.ntmps80
 go_wp2_with (first | ((with_reducible refine gate_dst (N := 3) rfl ?_); refine box_event ?hg (N := 3) ?hd (cs := #[.slice A1_0 l1_0.length c1_0, .int .i64 a1_1, .int .i64 a1_2, .int .i64 a1_3, .int .i64 a1_4]) (t := 28) ?hr ?_; (case hd => rfl); (case hg => rfl); (case hr => first | (go_simp; done) | (go_simp; rfl)); intro gb254 hg w4 hbox hb; have BK254 := aM hbox; have GW254 := aM (zG hg : w.heap.size ≤ gb254); have GE254 := aM (zG hg : w.heap.size ≤ gb254); replace HB := cH HB hb; clear hb hbox hg) | ((with_reducible refine gate_dst (N := 10) rfl ?_); refine Kd.R_lit (Kd.int .i64) _ 3 ?hg (N := 10) ?hd (xs := ([] : List Int)) (inner := []) (ok := fun _ => True) (okp := fun _ => True) ?hr ?hp (fun _ hk => hk) trivial (Below.refl _ _) (Nat.le_refl _) (by simp) ?_; (case hd => rfl); (case hg => rfl); (case hr => first | (go_simp; done) | (go_simp; rfl)); (case hp => exact (Reps.none _ _)); intro v256 w5 ho6 hb hg_ hnew_; clear hg_ hnew_; (first | rw [← Ny255.out] at ho6 | (simp only [Int.reduceToNat] at ho6; rw [← Ny255.out] at ho6)); have HO257 := aM (Kd.R_lower ho6 (below_size zH)); replace BK254 := cB BK254 hb; replace HB := cH HB hb; clear hb ho6) | (go_at_call 118; (with_reducible refine (impl_zigZag.calls k  t258 _ A3.out).mono ?_); rintro e w7 ⟨v259, rfl, ho0, hb⟩; have HO260 := aM (Kd.R_lower (Kd.R_new' ho0 (Kd.R_lt (by (with_reducible repeat (first | apply Kd.R_alloc | apply Kd.R_drewN | apply Kd.R_drew)); exact HO257.out))) (below_size zH)); replace HO257 := aM (Kd.R_elder' (by (with_reducible repeat (first | apply Kd.R_alloc | apply Kd.R_drewN | apply Kd.R_drew)); exact HO257.out) (Kd.R_base ho0) hb); replace BK254 := cB BK254 hb; replace HB := cH HB hb; (try clear hb); (try clear ho0); obtain ⟨hcz8_0, hcz8_1, hcz8_2, hcz8_3, hcz8_4⟩ := kk5 BK254; obtain ⟨hfz8_0, hfz8_1, hfz8_2, hfz8_3, hfz8_4⟩ := kg5 BK254))
 go_loopg [5, 7] k (fun kq v5 v7 w' => ∃ (x5_1 : List Int) (x7_1 : Int), v7 = .int .i64 x7_1 ∧ Aside0 (impl_refineOf.l0 kq l0 x5_1 t258 x7_1 l1_0 a1_1 a1_2 a1_3 a1_4 = some r) ∧ Aside0 (kq ≤ k) ∧ Aside0 (Kd.R (Kd.int .i64) 3 w' w.heap.size (fun k_ => some k_ ≠ (v259 : Value).ownBlock) v5 x5_1) ∧ Aside0 (Kd.R (Kd.int .i64) 3 w' w.heap.size (fun k_ => some k_ ≠ (v5 : Value).ownBlock) v259 t258) ∧ Aside0 (w'.heap[gb254]? = some (.cells #[(.slice A1_0 l1_0.length c1_0), .int .i64 a1_1, .int .i64 a1_2, .int .i64 a1_3, .int .i64 a1_4] 28 (0, 0))) ∧ Aside0 (Below w.heap.size w w'))
 case atStart => exact ⟨(y255), (a1_1), zS, H', ⟨Nat.le_refl _⟩, ⟨by (with_reducible repeat (first | apply Kd.R_alloc | apply Kd.R_drewN | apply Kd.R_drew)); exact Kd.R_mono HO257.out (fun _ hk => hk.2)⟩, ⟨by (with_reducible repeat (first | apply Kd.R_alloc | apply Kd.R_drewN | apply Kd.R_drew)); exact Kd.R_mono HO260.out (fun _ hk => hk.2)⟩, ⟨zK BK254⟩, ⟨zH⟩⟩
 case round =>
  clear H'
  (try clear hcz8_0); (try clear hcz8_1); (try clear hcz8_2); (try clear hcz8_3); (try clear hcz8_4); (try clear hfz8_0); (try clear hfz8_1); (try clear hfz8_2); (try clear hfz8_3); (try clear hfz8_4)
  obtain ⟨x5_1, x7_1, rfl, HA, HK1, HO_5, HO_6, BK254, HB⟩ := hrel
  cases gk with
  | zero => exact absurd HA.out (by simp [impl_refineOf.l0])
  | succ k1 =>
   have H := HA.out
   clear HA
   simp only [impl_refineOf.l0] at H
   by_cases c9 : x7_1 ≤ a1_2
   ·rw [if_pos c9] at H
    have c9b0 : decide (x7_1 ≤ a1_2) = true := decide_eq_true c9
    clear c9
    by_cases c10 : 0 ≤ x7_1
    ·rw [if_pos c10] at H
     have c10b0 : decide (0 ≤ x7_1) = true := decide_eq_true c10
     clear c10
     by_cases c11 : x7_1 < (t258.length : Int)
     ·rw [if_pos c11] at H
      have c11b0 : decide (x7_1 < (t258.length : Int)) = true := decide_eq_true c11
      clear c11
      by_cases c12 : 0 ≤ (rd t258 x7_1)
      ·rw [if_pos c12] at H
       have c12b0 : decide (0 ≤ (rd t258 x7_1)) = true := decide_eq_true c12
       clear c12
       by_cases c13 : (rd t258 x7_1) < (l0.length : Int)
       ·rw [if_pos c13] at H
        have c13b0 : decide ((rd t258 x7_1) < (l0.length : Int)) = true := decide_eq_true c13
        clear c13
        obtain ⟨ji14, hji14⟩ : ∃ j_ : Int, (mx (rd l0 (rd t258 x7_1)) (wrap64 (-(rd l0 (rd t258 x7_1))))) = j_ := ⟨_, rfl⟩
        replace H : (if 0 ≤ a1_4 then (if (rd l0 (rd t258 x7_1)) < 0 then (if 0 ≤ a1_3 then (if (shl .i64 1 a1_3) = 0 then (none) else (if (wrap64 (Int.tdiv (rd l0 (rd t258 x7_1)) (shl .i64 1 a1_3))) = 0 then (if x5_1.length < 17592186044416 then (impl_refineOf.l0 k1 l0 (x5_1 ++ [wrap64 (-(Go.bits .and .i64 (shr .i64 (ji14) a1_4) 1))]) t258 (wrap64 (x7_1 + 1)) l1_0 a1_1 a1_2 a1_3 a1_4) else (none)) else (if x5_1.length < 17592186044416 then (impl_refineOf.l0 k1 l0 (x5_1 ++ [Go.bits .and .i64 (shr .i64 (ji14) a1_4) 1]) t258 (wrap64 (x7_1 + 1)) l1_0 a1_1 a1_2 a1_3 a1_4) else (none)))) else (none)) else (if x5_1.length < 17592186044416 then (impl_refineOf.l0 k1 l0 (x5_1 ++ [Go.bits .and .i64 (shr .i64 (ji14) a1_4) 1]) t258 (wrap64 (x7_1 + 1)) l1_0 a1_1 a1_2 a1_3 a1_4) else (none))) else (none)) = some r := by first | (rw [hji14] at H; exact H) | (simp only [hji14] at H ⊢; exact H)
        have hji14_ : (if (rd l0 (rd t258 x7_1)) < (wrap64 (-(rd l0 (rd t258 x7_1)))) then (wrap64 (-(rd l0 (rd t258 x7_1)))) else (rd l0 (rd t258 x7_1))) = ji14 := hji14
        by_cases c15 : 0 ≤ a1_4
        ·rw [if_pos c15] at H
         have c15b0 := eq_true c15
         have c15b1 : decide (0 ≤ a1_4) = true := decide_eq_true c15
         clear c15
         obtain ⟨ji16, hji16⟩ : ∃ j_ : Int, (shr .i64 (ji14) a1_4) = j_ := ⟨_, rfl⟩
         replace H : (if (rd l0 (rd t258 x7_1)) < 0 then (if 0 ≤ a1_3 then (if (shl .i64 1 a1_3) = 0 then (none) else (if (wrap64 (Int.tdiv (rd l0 (rd t258 x7_1)) (shl .i64 1 a1_3))) = 0 then (if x5_1.length < 17592186044416 then (impl_refineOf.l0 k1 l0 (x5_1 ++ [wrap64 (-(Go.bits .and .i64 (ji16) 1))]) t258 (wrap64 (x7_1 + 1)) l1_0 a1_1 a1_2 a1_3 a1_4) else (none)) else (if x5_1.length < 17592186044416 then (impl_refineOf.l0 k1 l0 (x5_1 ++ [Go.bits .and .i64 (ji16) 1]) t258 (wrap64 (x7_1 + 1)) l1_0 a1_1 a1_2 a1_3 a1_4) else (none)))) else (none)) else (if x5_1.length < 17592186044416 then (impl_refineOf.l0 k1 l0 (x5_1 ++ [Go.bits .and .i64 (ji16) 1]) t258 (wrap64 (x7_1 + 1)) l1_0 a1_1 a1_2 a1_3 a1_4) else (none))) = some r := by first | (rw [hji16] at H; exact H) | (simp only [hji16] at H ⊢; exact H)
         have hji16_ : ((ji14) / 2 ^ min a1_4.toNat 64) = ji16 := hji16
         have hji16z : a1_4 ≤ 64 → ((ji14) / 2 ^ a1_4.toNat) = ji16 := shr_small hji16
         by_cases c17 : (rd l0 (rd t258 x7_1)) < 0
         ·rw [if_pos c17] at H
          have c17b0 : decide ((rd l0 (rd t258 x7_1)) < 0) = true := decide_eq_true c17
          clear c17
          by_cases c18 : 0 ≤ a1_3
          ·rw [if_pos c18] at H
           have c18b0 := eq_true c18
           have c18b1 : decide (0 ≤ a1_3) = true := decide_eq_true c18
           clear c18
           obtain ⟨ji19, hji19⟩ : ∃ j_ : Int, (shl .i64 1 a1_3) = j_ := ⟨_, rfl⟩
           replace H : (if (ji19) = 0 then (none) else (if (wrap64 (Int.tdiv (rd l0 (rd t258 x7_1)) (ji19))) = 0 then (if x5_1.length < 17592186044416 then (impl_refineOf.l0 k1 l0 (x5_1 ++ [wrap64 (-(Go.bits .and .i64 (ji16) 1))]) t258 (wrap64 (x7_1 + 1)) l1_0 a1_1 a1_2 a1_3 a1_4) else (none)) else (if x5_1.length < 17592186044416 then (impl_refineOf.l0 k1 l0 (x5_1 ++ [Go.bits .and .i64 (ji16) 1]) t258 (wrap64 (x7_1 + 1)) l1_0 a1_1 a1_2 a1_3 a1_4) else (none)))) = some r := by first | (rw [hji19] at H; exact H) | (simp only [hji19] at H ⊢; exact H)
           have hji19_ : (IntKind.i64.wrap (1 * 2 ^ min a1_3.toNat 64)) = ji19 := hji19
           have hji19z : a1_3 ≤ 64 → (IntKind.i64.wrap (1 * 2 ^ a1_3.toNat)) = ji19 := shl_small hji19
           have hji19u : (IntKind.i64.wrap (2 ^ min a1_3.toNat 64)) = ji19 := by have h_ := hji19_; rw [Int.one_mul] at h_; exact h_
           have hji19v : a1_3 ≤ 64 → (IntKind.i64.wrap (2 ^ a1_3.toNat)) = ji19 := fun hle_ => by have h_ := hji19z hle_; rw [Int.one_mul] at h_; exact h_
           have hji19y : (wrap64 (1 * 2 ^ min a1_3.toNat 64)) = ji19 := (i64_w _).symm.trans hji19_
           have hji19x : a1_3 ≤ 64 → (wrap64 (1 * 2 ^ a1_3.toNat)) = ji19 := fun h_ => (i64_w _).symm.trans (hji19z h_)
           by_cases c20 : (ji19) = 0
           ·rw [if_pos c20] at H
            exact absurd H (by simp)
           ·rw [if_neg c20] at H
            have c20b0 : ((ji19) == 0) = false := beq_eq_false_iff_ne.mpr c20
            have c20b1 : ((ji19) != 0) = true := bne_iff_ne.mpr c20
            by_cases c21 : (wrap64 (Int.tdiv (rd l0 (rd t258 x7_1)) (ji19))) = 0
            ·rw [if_pos c21] at H
             have c21b0 : ((wrap64 (Int.tdiv (rd l0 (rd t258 x7_1)) (ji19))) == 0) = true := beq_iff_eq.mpr c21
             have c21b1 : ((wrap64 (Int.tdiv (rd l0 (rd t258 x7_1)) (ji19))) != 0) = false := bne_eq_false_iff_eq.mpr c21
             clear c21
             by_cases c22 : x5_1.length < 17592186044416
             ·rw [if_pos c22] at H
              have LMc22 := aM c22
              clear c22
              obtain ⟨y263, hy263⟩ : ∃ y_ : List Int, y_ = (x5_1 ++ [wrap64 (-(Go.bits .and .i64 (ji16) 1))]) := ⟨_, rfl⟩
              replace H : (impl_refineOf.l0 k1 l0 y263 t258 (wrap64 (x7_1 + 1)) l1_0 a1_1 a1_2 a1_3 a1_4) = some r := by first | (rw [hy263]; with_reducible exact H) | (have H2_ := (Option.bind_some _ _).symm.trans H; rw [hy263]; with_reducible exact H2_) | (have H2_ := (Option.bind_some _ _).symm.trans H; with_reducible exact H2_) | with_reducible exact H | (rw [hy263]; exact H) | exact H
              have Ny263 := aM hy263
              clear hy263
              have H' := aM H
              clear H
              obtain ⟨hcz23_0, hcz23_1, hcz23_2, hcz23_3, hcz23_4⟩ := kk5 BK254
              obtain ⟨hfz23_0, hfz23_1, hfz23_2, hfz23_3, hfz23_4⟩ := kg5 BK254
              obtain ⟨Ao24, co24, eo24⟩ := Kd.R_slice HO_6.out
              subst eo24
              have p261 : 0 ≤ (x7_1 : Int) := zA
              have q261 : x7_1 < (t258.length : Int) := zA
              obtain ⟨ad261, e261, hx261_0⟩ := Kd.at_int (Kd.R_reads' HO_6.out).2.2 x7_1 p261 q261
              cases e261
              replace p261 := eq_true p261
              replace q261 := eq_true q261
              have p262 : 0 ≤ ((rd t258 x7_1) : Int) := zA
              have q262 : (rd t258 x7_1) < (l0.length : Int) := zA
              obtain ⟨ad262, e262, hx262_0⟩ := Kd.at_int HR0.out (rd t258 x7_1) p262 q262
              cases e262
              replace hx262_0 := hX HB hx262_0
              replace p262 := eq_true p262
              replace q262 := eq_true q262
              go_wp2_with (first | ((with_reducible refine gate_builtin (b := .append) (xs := #[.tmp 47, .tmp 49]) rfl ?_); at_builtin; refine Kd.R_append (Kd.int .i64) (w0 := w) w.heap.size rfl (.tmp 47) (.tmp 49) 22 3 (.int .i64 0) 8 rfl Try.underlying22 info3 rfl (by decide) (by omega) u5 x5_1 (wrap64 (-(Go.bits .and .i64 (ji16) 1))) [.int .i64 (wrap64 (-(Go.bits .and .i64 (ji16) 1)))] (fun k_ => some k_ ≠ (.slice (some ad261) t258.length co24 : Value).ownBlock) (fun _ => False) rfl rfl ?aP (fun _ hk => hk.elim) ?aF ?aO ?aB ?aS ?aL ?_; (case aP => exact rfl); (case aB => exact zH); (case aF => exact (fun k_ hk => Kd.fresh' (Kd.R_lt (by (with_reducible repeat (first | apply Kd.R_alloc | apply Kd.R_drewN | apply Kd.R_drew)); exact HO_6.out)) k_ hk)); (case aO => exact (by (with_reducible repeat (first | apply Kd.R_alloc | apply Kd.R_drewN | apply Kd.R_drew)); exact HO_5.out)); (case aS => exact (below_size zH)); (case aL => have := LMc22.out; omega); intro v264 w25 ho hb hg hat; rw [← Ny263.out] at ho; replace HO_6 := aM (Kd.R_after (ok := (fun _ => True)) (by (with_reducible repeat (first | apply Kd.R_alloc | apply Kd.R_drewN | apply Kd.R_drew)); exact Kd.R_mono HO_6.out (fun _ hk => ⟨trivial, hk⟩)) hg hat); replace BK254 := aM (blk_grown (g := gb254) (o := .cells #[.slice A1_0 l1_0.length c1_0, .int .i64 a1_1, .int .i64 a1_2, .int .i64 a1_3, .int .i64 a1_4] 28 (0, 0)) (zK BK254) hg (Kd.R_ne HO_5.out BK254.out (by decide))); replace HB := aM (hb); have HO265 := aM (ho); clear HO_5; clear ho hb hg hat))
              go_roundg k1
              case measure => have := HK1.out; omega
              case rel => exact ⟨(y263), (wrap64 (x7_1 + 1)), zS, H', ⟨by have := HK1.out; omega⟩, ⟨by (with_reducible repeat (first | apply Kd.R_alloc | apply Kd.R_drewN | apply Kd.R_drew)); exact HO265.out⟩, ⟨by (with_reducible repeat (first | apply Kd.R_alloc | apply Kd.R_drewN | apply Kd.R_drew)); exact Kd.R_mono HO_6.out (fun _ hk => hk.2)⟩, ⟨zK BK254⟩, ⟨zH⟩⟩
             ·rw [if_neg c22] at H
              exact absurd H (by simp)
            ·rw [if_neg c21] at H
             have c21b0 : ((wrap64 (Int.tdiv (rd l0 (rd t258 x7_1)) (ji19))) == 0) = false := beq_eq_false_iff_ne.mpr c21
             have c21b1 : ((wrap64 (Int.tdiv (rd l0 (rd t258 x7_1)) (ji19))) != 0) = true := bne_iff_ne.mpr c21
             by_cases c26 : x5_1.length < 17592186044416
             ·rw [if_pos c26] at H
              have LMc26 := aM c26
              clear c26
              obtain ⟨y266, hy266⟩ : ∃ y_ : List Int, y_ = (x5_1 ++ [Go.bits .and .i64 (ji16) 1]) := ⟨_, rfl⟩
              replace H : (impl_refineOf.l0 k1 l0 y266 t258 (wrap64 (x7_1 + 1)) l1_0 a1_1 a1_2 a1_3 a1_4) = some r := by first | (rw [hy266]; with_reducible exact H) | (have H2_ := (Option.bind_some _ _).symm.trans H; rw [hy266]; with_reducible exact H2_) | (have H2_ := (Option.bind_some _ _).symm.trans H; with_reducible exact H2_) | with_reducible exact H | (rw [hy266]; exact H) | exact H
              have Ny266 := aM hy266
              clear hy266
              have H' := aM H
              clear H
              obtain ⟨hcz27_0, hcz27_1, hcz27_2, hcz27_3, hcz27_4⟩ := kk5 BK254
              obtain ⟨hfz27_0, hfz27_1, hfz27_2, hfz27_3, hfz27_4⟩ := kg5 BK254
              obtain ⟨Ao28, co28, eo28⟩ := Kd.R_slice HO_6.out
              subst eo28
              have p261 : 0 ≤ (x7_1 : Int) := zA
              have q261 : x7_1 < (t258.length : Int) := zA
              obtain ⟨ad261, e261, hx261_0⟩ := Kd.at_int (Kd.R_reads' HO_6.out).2.2 x7_1 p261 q261
              cases e261
              replace p261 := eq_true p261
              replace q261 := eq_true q261
              have p262 : 0 ≤ ((rd t258 x7_1) : Int) := zA
              have q262 : (rd t258 x7_1) < (l0.length : Int) := zA
              obtain ⟨ad262, e262, hx262_0⟩ := Kd.at_int HR0.out (rd t258 x7_1) p262 q262
              cases e262
              replace hx262_0 := hX HB hx262_0
              replace p262 := eq_true p262
              replace q262 := eq_true q262
              go_wp2_with (first | ((with_reducible refine gate_builtin (b := .append) (xs := #[.tmp 47, .tmp 49]) rfl ?_); at_builtin; refine Kd.R_append (Kd.int .i64) (w0 := w) w.heap.size rfl (.tmp 47) (.tmp 49) 22 3 (.int .i64 0) 8 rfl Try.underlying22 info3 rfl (by decide) (by omega) u5 x5_1 (Go.bits .and .i64 (ji16) 1) [.int .i64 (Go.bits .and .i64 (ji16) 1)] (fun k_ => some k_ ≠ (.slice (some ad261) t258.length co28 : Value).ownBlock) (fun _ => False) rfl rfl ?aP (fun _ hk => hk.elim) ?aF ?aO ?aB ?aS ?aL ?_; (case aP => exact rfl); (case aB => exact zH); (case aF => exact (fun k_ hk => Kd.fresh' (Kd.R_lt (by (with_reducible repeat (first | apply Kd.R_alloc | apply Kd.R_drewN | apply Kd.R_drew)); exact HO_6.out)) k_ hk)); (case aO => exact (by (with_reducible repeat (first | apply Kd.R_alloc | apply Kd.R_drewN | apply Kd.R_drew)); exact HO_5.out)); (case aS => exact (below_size zH)); (case aL => have := LMc26.out; omega); intro v267 w29 ho hb hg hat; rw [← Ny266.out] at ho; replace HO_6 := aM (Kd.R_after (ok := (fun _ => True)) (by (with_reducible repeat (first | apply Kd.R_alloc | apply Kd.R_drewN | apply Kd.R_drew)); exact Kd.R_mono HO_6.out (fun _ hk => ⟨trivial, hk⟩)) hg hat); replace BK254 := aM (blk_grown (g := gb254) (o := .cells #[.slice A1_0 l1_0.length c1_0, .int .i64 a1_1, .int .i64 a1_2, .int .i64 a1_3, .int .i64 a1_4] 28 (0, 0)) (zK BK254) hg (Kd.R_ne HO_5.out BK254.out (by decide))); replace HB := aM (hb); have HO268 := aM (ho); clear HO_5; clear ho hb hg hat))
              go_roundg k1
              case measure => have := HK1.out; omega
              case rel => exact ⟨(y266), (wrap64 (x7_1 + 1)), zS, H', ⟨by have := HK1.out; omega⟩, ⟨by (with_reducible repeat (first | apply Kd.R_alloc | apply Kd.R_drewN | apply Kd.R_drew)); exact HO268.out⟩, ⟨by (with_reducible repeat (first | apply Kd.R_alloc | apply Kd.R_drewN | apply Kd.R_drew)); exact Kd.R_mono HO_6.out (fun _ hk => hk.2)⟩, ⟨zK BK254⟩, ⟨zH⟩⟩
             ·rw [if_neg c26] at H
              exact absurd H (by simp)
          ·rw [if_neg c18] at H
           exact absurd H (by simp)
         ·rw [if_neg c17] at H
          have c17b0 : decide ((rd l0 (rd t258 x7_1)) < 0) = false := decide_eq_false c17
          clear c17
          by_cases c30 : x5_1.length < 17592186044416
          ·rw [if_pos c30] at H
           have LMc30 := aM c30
           clear c30
           obtain ⟨y269, hy269⟩ : ∃ y_ : List Int, y_ = (x5_1 ++ [Go.bits .and .i64 (ji16) 1]) := ⟨_, rfl⟩
           replace H : (impl_refineOf.l0 k1 l0 y269 t258 (wrap64 (x7_1 + 1)) l1_0 a1_1 a1_2 a1_3 a1_4) = some r := by first | (rw [hy269]; with_reducible exact H) | (have H2_ := (Option.bind_some _ _).symm.trans H; rw [hy269]; with_reducible exact H2_) | (have H2_ := (Option.bind_some _ _).symm.trans H; with_reducible exact H2_) | with_reducible exact H | (rw [hy269]; exact H) | exact H
           have Ny269 := aM hy269
           clear hy269
           have H' := aM H
           clear H
           obtain ⟨hcz31_0, hcz31_1, hcz31_2, hcz31_3, hcz31_4⟩ := kk5 BK254
           obtain ⟨hfz31_0, hfz31_1, hfz31_2, hfz31_3, hfz31_4⟩ := kg5 BK254
           obtain ⟨Ao32, co32, eo32⟩ := Kd.R_slice HO_6.out
           subst eo32
           have p261 : 0 ≤ (x7_1 : Int) := zA
           have q261 : x7_1 < (t258.length : Int) := zA
           obtain ⟨ad261, e261, hx261_0⟩ := Kd.at_int (Kd.R_reads' HO_6.out).2.2 x7_1 p261 q261
           cases e261
           replace p261 := eq_true p261
           replace q261 := eq_true q261
           have p262 : 0 ≤ ((rd t258 x7_1) : Int) := zA
           have q262 : (rd t258 x7_1) < (l0.length : Int) := zA
           obtain ⟨ad262, e262, hx262_0⟩ := Kd.at_int HR0.out (rd t258 x7_1) p262 q262
           cases e262
           replace hx262_0 := hX HB hx262_0
           replace p262 := eq_true p262
           replace q262 := eq_true q262
           go_wp2_with (first | ((with_reducible refine gate_builtin (b := .append) (xs := #[.tmp 47, .tmp 49]) rfl ?_); at_builtin; refine Kd.R_append (Kd.int .i64) (w0 := w) w.heap.size rfl (.tmp 47) (.tmp 49) 22 3 (.int .i64 0) 8 rfl Try.underlying22 info3 rfl (by decide) (by omega) u5 x5_1 (Go.bits .and .i64 (ji16) 1) [.int .i64 (Go.bits .and .i64 (ji16) 1)] (fun k_ => some k_ ≠ (.slice (some ad261) t258.length co32 : Value).ownBlock) (fun _ => False) rfl rfl ?aP (fun _ hk => hk.elim) ?aF ?aO ?aB ?aS ?aL ?_; (case aP => exact rfl); (case aB => exact zH); (case aF => exact (fun k_ hk => Kd.fresh' (Kd.R_lt (by (with_reducible repeat (first | apply Kd.R_alloc | apply Kd.R_drewN | apply Kd.R_drew)); exact HO_6.out)) k_ hk)); (case aO => exact (by (with_reducible repeat (first | apply Kd.R_alloc | apply Kd.R_drewN | apply Kd.R_drew)); exact HO_5.out)); (case aS => exact (below_size zH)); (case aL => have := LMc30.out; omega); intro v270 w33 ho hb hg hat; rw [← Ny269.out] at ho; replace HO_6 := aM (Kd.R_after (ok := (fun _ => True)) (by (with_reducible repeat (first | apply Kd.R_alloc | apply Kd.R_drewN | apply Kd.R_drew)); exact Kd.R_mono HO_6.out (fun _ hk => ⟨trivial, hk⟩)) hg hat); replace BK254 := aM (blk_grown (g := gb254) (o := .cells #[.slice A1_0 l1_0.length c1_0, .int .i64 a1_1, .int .i64 a1_2, .int .i64 a1_3, .int .i64 a1_4] 28 (0, 0)) (zK BK254) hg (Kd.R_ne HO_5.out BK254.out (by decide))); replace HB := aM (hb); have HO271 := aM (ho); clear HO_5; clear ho hb hg hat))
           go_roundg k1
           case measure => have := HK1.out; omega
           case rel => exact ⟨(y269), (wrap64 (x7_1 + 1)), zS, H', ⟨by have := HK1.out; omega⟩, ⟨by (with_reducible repeat (first | apply Kd.R_alloc | apply Kd.R_drewN | apply Kd.R_drew)); exact HO271.out⟩, ⟨by (with_reducible repeat (first | apply Kd.R_alloc | apply Kd.R_drewN | apply Kd.R_drew)); exact Kd.R_mono HO_6.out (fun _ hk => hk.2)⟩, ⟨zK BK254⟩, ⟨zH⟩⟩
          ·rw [if_neg c30] at H
           exact absurd H (by simp)
        ·rw [if_neg c15] at H
         exact absurd H (by simp)
       ·rw [if_neg c13] at H
        exact absurd H (by simp)
      ·rw [if_neg c12] at H
       exact absurd H (by simp)
     ·rw [if_neg c11] at H
      exact absurd H (by simp)
    ·rw [if_neg c10] at H
     exact absurd H (by simp)
   ·rw [if_neg c9] at H
    have c9b0 : decide (x7_1 ≤ a1_2) = false := decide_eq_false c9
    clear c9
    obtain rfl := Option.some.inj H
    obtain ⟨hcz34_0, hcz34_1, hcz34_2, hcz34_3, hcz34_4⟩ := kk5 BK254
    obtain ⟨hfz34_0, hfz34_1, hfz34_2, hfz34_3, hfz34_4⟩ := kg5 BK254
    go_wp2
    go_ret
    exact ⟨_, zR, by (with_reducible repeat (first | apply Kd.R_alloc | apply Kd.R_drewN | apply Kd.R_drew)); exact Kd.R_mono HO_5.out (fun _ hk => trivial), zH⟩

theorem iRef_l0 (b : List Int) (hb : numsB b (-16383) 16383 = true) (c : List Int) (f t h low : Int) (h0 : 0 ≤ f) (h1 : f ≤ t) (h2 : t ≤ 63) (h3 : 0 ≤ low) (h4 : low ≤ 13) (h5 : 0 ≤ h) (h6 : h ≤ 14) :
    ∀ (d m : Nat), (m : Int) + d = t - f + 1 → Ev (fun k => impl_refineOf.l0 k b (refN (toZ b) f low h m) zzL (f + m) c f t h low) (refN (toZ b) f low h (t - f + 1).toNat) := by
  have hlen := nums_len hb
  intro d
  induction d with
  | zero =>
    intro m hm
    refine Ev.step (fun k => by rw [impl_refineOf.l0]) ?_
    rw [show (t - f + 1).toNat = m from by omega]
    exact evNeg (by omega) (Ev.now _)
  | succ d ih =>
    intro m hm
    obtain ⟨j, hj⟩ : ∃ j : Nat, f + m = j := ⟨(f + m).toNat, by omega⟩
    have hz := zz_rd j (by omega)
    have e := toZ_rd b j (by omega)
    have hs := nums_rd hb (by omega) (by omega) (rd zzL (j : Int))
    have hn := ih (m + 1) (by omega)
    rw [refN_succ, show f + ((m + 1 : Nat) : Int) = f + m + 1 from by omega, hj, e] at hn
    refine Ev.step (fun k => by rw [impl_refineOf.l0]) ?_
    rw [hj]
    refine evPos (by omega) (evPos (by omega) (evPos (by rw [zzL_length]; omega) (evPos hz.1 (evPos (by omega) (evPos h3 ?_)))))
    rw [w64 (x := (j : Int) + 1) (by omega) (by omega), mx_abs _ (by omega), tdiv_cut _ _ (by omega) h5 (by omega)]
    unfold refB at hn
    refine evIf (fun hc => evPos h5 (evNeg (shl1_ne h h5 (by omega)) (evIf (fun hz => ?_) (fun hz => ?_)))) (fun hc => ?_)
    · rw [if_pos ⟨hc, hz⟩] at hn
      exact evPos (by rw [refN_length]; omega) hn
    · rw [if_neg (fun h => hz h.2)] at hn
      exact evPos (by rw [refN_length]; omega) hn
    · rw [if_neg (fun h => hc h.1)] at hn
      exact evPos (by rw [refN_length]; omega) hn

end Go.Proofs.Ythajjjpblkhmmaa.CP
