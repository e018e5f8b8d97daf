/- Functions that a law of this seat reaches: written by a program of this session (wip/xprint.py), and by hand. -/
import Derived.Test.YthajjjpblkhmmaaQMac
import Derived.Test.YthajjjpblkhmmaaQCPx0
import Derived.Test.YthajjjpblkhmmaaQCPx1
import Derived.Test.YthajjjpblkhmmaaQCPx2
import Derived.Test.YthajjjpblkhmmaaQCPx3
import Derived.Test.YthajjjpblkhmmaaQCPx7
namespace Go.Proofs.Ythajjjpblkhmmaa.CP
open Go.RowKit Go.Proofs.Ythajjjpblkhmmaa.B Go.Proofs.YthajjjpblkhmmaaW.PrintWords Go.Proofs.YthajjjpblkhmmaaW.PrintLast Go.Proofs.YthajjjpblkhmmaaW.PrintMore
attribute [local go_sem] max2_int min2_int max_two min_two max_three min_three max_four min_four   -- for this text's walks alone
set_option linter.unusedVariables false
set_option linter.unusedSimpArgs false

/-! ### impl_RefineOf: function 28 -/
def impl_RefineOf.f (k : Nat) (l0 : List Int) (l1_0 : List Int) (a1_1 : Int) (a1_2 : Int) (a1_3 : Int) (a1_4 : Int) : Option (List Int) := (impl_isLevels.f k l0).bind fun t273 => (if t273 = true then ((impl_Scan_isPass.f l1_0 a1_1 a1_2 a1_3 a1_4).bind fun t274 => (if t274 = true then (if a1_3 = 0 then (some ([] : List Int)) else ((impl_refineOf.f k l0 l1_0 a1_1 a1_2 a1_3 a1_4).bind fun t275 => (some t275))) else (some ([] : List Int)))) else (some ([] : List Int)))
set_option maxHeartbeats 8000000 in
set_option maxRecDepth 100000 in
theorem impl_RefineOf.calls (k : Nat) (A0 : Option Addr) (c0 : Nat) (l0 : List Int) (A1_0 : Option Addr) (c1_0 : Nat) (l1_0 : List Int) (a1_1 : Int) (a1_2 : Int) (a1_3 : Int) (a1_4 : Int) (r : List Int) (w : World) (hr0 : Kd.C (Kd.int .i64) w A0 l0.length l0) (hc0 : l0.length ≤ c0) (hr1_0 : Kd.C (Kd.int .i64) w A1_0 l1_0.length l1_0) (hc1_0 : l1_0.length ≤ c1_0) (h : impl_RefineOf.f k l0 l1_0 a1_1 a1_2 a1_3 a1_4 = some r) :
  Calls Try.prog 28 #[.slice A0 l0.length c0, .agg #[.slice A1_0 l1_0.length c1_0, .int .i64 a1_1, .int .i64 a1_2, .int .i64 a1_3, .int .i64 a1_4]] w fun e w' => ∃ v0_ : Value, e = .returned (v0_) ∧ Kd.R (Kd.int .i64) 3 w' w.heap.size (fun _ => True) v0_ r ∧ Below w.heap.size w w' := by
 have hu28 := Try.underlying28
 have HR0 := aM hr0
 have HC0 := aM hc0
 clear hr0 hc0
 have HR1_0 := aM hr1_0
 have HC1_0 := aM hc1_0
 clear hr1_0 hc1_0
 have HB := aM (Below.refl w.heap.size w)
 have H : ((impl_isLevels.f k l0).bind fun t273 => (if t273 = true then ((impl_Scan_isPass.f l1_0 a1_1 a1_2 a1_3 a1_4).bind fun t274 => (if t274 = true then (if a1_3 = 0 then (some ([] : List Int)) else ((impl_refineOf.f k l0 l1_0 a1_1 a1_2 a1_3 a1_4).bind fun t275 => (some t275))) else (some ([] : List Int)))) else (some ([] : List Int)))) = some r := h
 clear h
 obtain ⟨t273, A3, H⟩ := oH H
 by_cases c4 : t273 = true
 ·subst c4
  replace H := iT H
  obtain ⟨t274, A5, H⟩ := oH H
  by_cases c6 : t274 = true
  ·subst c6
   replace H := iT H
   by_cases c7 : a1_3 = 0
   ·rw [if_pos c7] at H
    have c7b0 : (a1_3 == 0) = true := beq_iff_eq.mpr c7
    have c7b1 : (a1_3 != 0) = false := bne_eq_false_iff_eq.mpr c7
    clear c7
    obtain rfl := Option.some.inj H
    go_enter Try.func28, Try.ntmps28
    go_wp2_with (first | ((with_reducible refine gate_dst (N := 3) rfl ?_); refine box_event ?hg (N := 3) ?hd (cs := #[.slice A1_0 l1_0.length c1_0, .int .i64 a1_1, .int .i64 a1_2, .int .i64 a1_3, .int .i64 a1_4]) (t := 28) ?hr ?_; (case hd => rfl); (case hg => rfl); (case hr => first | (go_simp; done) | (go_simp; rfl)); intro gb272 hg w8 hbox hb; have BK272 := aM hbox; have GW272 := aM (zG hg : w.heap.size ≤ gb272); have GE272 := aM (zG hg : w.heap.size ≤ gb272); replace HB := cH HB hb; clear hb hbox hg) | (go_at_call 73; (with_reducible refine (impl_isLevels.calls k _ _ l0 true _ ?side1 ?side2 A3.out).mono ?_); (case side1 => exact zC (Kd.C_below HR0.out HB.out)); (case side2 => exact HC0.out); rintro e w' ⟨rfl, ⟨nd, rfl⟩⟩; obtain ⟨hcz9_0, hcz9_1, hcz9_2, hcz9_3, hcz9_4⟩ := kk5 BK272; obtain ⟨hfz9_0, hfz9_1, hfz9_2, hfz9_3, hfz9_4⟩ := kg5 BK272) | (go_at_call 74; (with_reducible refine (impl_Scan_isPass.calls _ _ l1_0 a1_1 a1_2 a1_3 a1_4 true _ ?side1 ?side2 A5.out).mono ?_); (case side1 => exact zC (Kd.C_below HR1_0.out zH)); (case side2 => exact HC1_0.out); rintro e w10 ⟨rfl, hb⟩; replace BK272 := cB BK272 hb; replace HB := cH HB hb; (try clear hb); obtain ⟨hcz11_0, hcz11_1, hcz11_2, hcz11_3, hcz11_4⟩ := kk5 BK272; obtain ⟨hfz11_0, hfz11_1, hfz11_2, hfz11_3, hfz11_4⟩ := kg5 BK272))
    go_ret
    exact ⟨_, zR, by first | exact Kd.R_nil _ _ _ _ _ | exact Kd.N_nil _ _ _ _ _ | exact Kd.V_nil _ _ _ _ _ | exact Kd.Q_nil _ _ _ _ _ | exact Kd.S_nil _ _ _ _ _, zH⟩
   ·rw [if_neg c7] at H
    have c7b0 : (a1_3 == 0) = false := beq_eq_false_iff_ne.mpr c7
    have c7b1 : (a1_3 != 0) = true := bne_iff_ne.mpr c7
    obtain ⟨t275, A12, H⟩ := oH H
    obtain rfl := Option.some.inj H
    go_enter Try.func28, Try.ntmps28
    go_wp2_with (first | ((with_reducible refine gate_dst (N := 3) rfl ?_); refine box_event ?hg (N := 3) ?hd (cs := #[.slice A1_0 l1_0.length c1_0, .int .i64 a1_1, .int .i64 a1_2, .int .i64 a1_3, .int .i64 a1_4]) (t := 28) ?hr ?_; (case hd => rfl); (case hg => rfl); (case hr => first | (go_simp; done) | (go_simp; rfl)); intro gb272 hg w13 hbox hb; have BK272 := aM hbox; have GW272 := aM (zG hg : w.heap.size ≤ gb272); have GE272 := aM (zG hg : w.heap.size ≤ gb272); replace HB := cH HB hb; clear hb hbox hg) | (go_at_call 73; (with_reducible refine (impl_isLevels.calls k _ _ l0 true _ ?side1 ?side2 A3.out).mono ?_); (case side1 => exact zC (Kd.C_below HR0.out HB.out)); (case side2 => exact HC0.out); rintro e w' ⟨rfl, ⟨nd, rfl⟩⟩; obtain ⟨hcz14_0, hcz14_1, hcz14_2, hcz14_3, hcz14_4⟩ := kk5 BK272; obtain ⟨hfz14_0, hfz14_1, hfz14_2, hfz14_3, hfz14_4⟩ := kg5 BK272) | (go_at_call 74; (with_reducible refine (impl_Scan_isPass.calls _ _ l1_0 a1_1 a1_2 a1_3 a1_4 true _ ?side1 ?side2 A5.out).mono ?_); (case side1 => exact zC (Kd.C_below HR1_0.out zH)); (case side2 => exact HC1_0.out); rintro e w15 ⟨rfl, hb⟩; replace BK272 := cB BK272 hb; replace HB := cH HB hb; (try clear hb); obtain ⟨hcz16_0, hcz16_1, hcz16_2, hcz16_3, hcz16_4⟩ := kk5 BK272; obtain ⟨hfz16_0, hfz16_1, hfz16_2, hfz16_3, hfz16_4⟩ := kg5 BK272) | (go_at_call 80; (with_reducible refine (impl_refineOf.calls k _ _ l0 _ _ l1_0 a1_1 a1_2 a1_3 a1_4 t275 _ ?side1 ?side2 ?side3 ?side4 A12.out).mono ?_); (case side1 => exact zC (Kd.C_below HR0.out HB.out)); (case side2 => exact HC0.out); (case side3 => exact zC (Kd.C_below HR1_0.out HB.out)); (case side4 => exact HC1_0.out); rintro e w17 ⟨v276, rfl, ho0, hb⟩; have HO277 := aM (Kd.R_lower ho0 (below_size zH)); replace BK272 := cB BK272 hb; replace HB := cH HB hb; (try clear hb); (try clear ho0)))
    go_ret
    exact ⟨_, zR, by (with_reducible repeat (first | apply Kd.R_alloc | apply Kd.R_drewN | apply Kd.R_drew)); exact HO277.out, zH⟩
  ·replace c6 := Bool.eq_false_iff.mpr c6
   subst c6
   replace H := iF H
   obtain rfl := Option.some.inj H
   go_enter Try.func28, Try.ntmps28
   go_wp2_with (first | ((with_reducible refine gate_dst (N := 3) rfl ?_); refine box_event ?hg (N := 3) ?hd (cs := #[.slice A1_0 l1_0.length c1_0, .int .i64 a1_1, .int .i64 a1_2, .int .i64 a1_3, .int .i64 a1_4]) (t := 28) ?hr ?_; (case hd => rfl); (case hg => rfl); (case hr => first | (go_simp; done) | (go_simp; rfl)); intro gb272 hg w18 hbox hb; have BK272 := aM hbox; have GW272 := aM (zG hg : w.heap.size ≤ gb272); have GE272 := aM (zG hg : w.heap.size ≤ gb272); replace HB := cH HB hb; clear hb hbox hg) | (go_at_call 73; (with_reducible refine (impl_isLevels.calls k _ _ l0 true _ ?side1 ?side2 A3.out).mono ?_); (case side1 => exact zC (Kd.C_below HR0.out HB.out)); (case side2 => exact HC0.out); rintro e w' ⟨rfl, ⟨nd, rfl⟩⟩; obtain ⟨hcz19_0, hcz19_1, hcz19_2, hcz19_3, hcz19_4⟩ := kk5 BK272; obtain ⟨hfz19_0, hfz19_1, hfz19_2, hfz19_3, hfz19_4⟩ := kg5 BK272) | (go_at_call 74; (with_reducible refine (impl_Scan_isPass.calls _ _ l1_0 a1_1 a1_2 a1_3 a1_4 false _ ?side1 ?side2 A5.out).mono ?_); (case side1 => exact zC (Kd.C_below HR1_0.out zH)); (case side2 => exact HC1_0.out); rintro e w20 ⟨rfl, hb⟩; replace BK272 := cB BK272 hb; replace HB := cH HB hb; (try clear hb)))
   go_ret
   exact ⟨_, zR, by first | exact Kd.R_nil _ _ _ _ _ | exact Kd.N_nil _ _ _ _ _ | exact Kd.V_nil _ _ _ _ _ | exact Kd.Q_nil _ _ _ _ _ | exact Kd.S_nil _ _ _ _ _, zH⟩
 ·replace c4 := Bool.eq_false_iff.mpr c4
  subst c4
  replace H := iF H
  obtain rfl := Option.some.inj H
  go_enter Try.func28, Try.ntmps28
  go_wp2_with (first | ((with_reducible refine gate_dst (N := 3) rfl ?_); refine box_event ?hg (N := 3) ?hd (cs := #[.slice A1_0 l1_0.length c1_0, .int .i64 a1_1, .int .i64 a1_2, .int .i64 a1_3, .int .i64 a1_4]) (t := 28) ?hr ?_; (case hd => rfl); (case hg => rfl); (case hr => first | (go_simp; done) | (go_simp; rfl)); intro gb272 hg w21 hbox hb; have BK272 := aM hbox; have GW272 := aM (zG hg : w.heap.size ≤ gb272); have GE272 := aM (zG hg : w.heap.size ≤ gb272); replace HB := cH HB hb; clear hb hbox hg) | (go_at_call 73; (with_reducible refine (impl_isLevels.calls k _ _ l0 false _ ?side1 ?side2 A3.out).mono ?_); (case side1 => exact zC (Kd.C_below HR0.out HB.out)); (case side2 => exact HC0.out); rintro e w' ⟨rfl, ⟨nd, rfl⟩⟩))
  go_ret
  exact ⟨_, zR, by first | exact Kd.R_nil _ _ _ _ _ | exact Kd.N_nil _ _ _ _ _ | exact Kd.V_nil _ _ _ _ _ | exact Kd.Q_nil _ _ _ _ _ | exact Kd.S_nil _ _ _ _ _, zH⟩

theorem iRefineOf_f (b c : List Int) (f t h l : Int) : Ev (fun k => impl_RefineOf.f k b c f t h l) (refI b f t h l) := by
  unfold impl_RefineOf.f refI
  refine evBind (isLevels_f b) (evIf (fun hl => ?_) (fun hl => ?_))
  · refine evBind (evConst (isPass_f c f t h l)) (evIf (fun hp => ?_) (fun hp => ?_))
    · refine evIf (fun hh => ?_) (fun hh => ?_)
      · rw [if_neg (fun h => h.2.2 hh)]
        exact Ev.now _
      · rw [if_pos ⟨hl, hp, hh⟩]
        obtain ⟨p1, p2, p3, p4, p5, p6⟩ := pass_bounds hp
        unfold impl_refineOf.f
        refine evBind (evBind izz_f ?_) (Ev.now _)
        have := iRef_l0 b hl c f t h l p1 p2 p3 p4 p5 (by omega) (by omega) (t - f + 1).toNat 0 (by omega)
        simpa [refN] using this
    · rw [if_neg (fun h => hp h.2.1)]
      exact Ev.now _
  · rw [if_neg (fun h => hl h.1)]
    exact Ev.now _

end Go.Proofs.Ythajjjpblkhmmaa.CP
