/- Functions that a law of this seat reaches: written by a program of this session (wip/xprint.py), and by hand. -/
import Derived.Test.YtdeheflbigggbaaCMx0
import Derived.Test.YtdeheflbigggbaaCMx1
import Derived.Test.YtdeheflbigggbaaCMx2
import Derived.Test.YtdeheflbigggbaaCMx3
import Derived.Test.YtdeheflbigggbaaCMx4
import Derived.Test.YtdeheflbigggbaaCMx5
import Derived.Test.YtdeheflbigggbaaCMx6
import Derived.Test.YtdeheflbigggbaaCMx8
namespace Go.Proofs.Ytdeheflbigggbaa.CM
open Go.RowKit Go.Proofs.Ytdeheflbigggbaa.B Go.Proofs.YtdeheflbigggbaaW.PrintWords Go.Proofs.YtdeheflbigggbaaW.PrintLast Go.Proofs.YtdeheflbigggbaaW.PrintMore
attribute [local go_sem] max2_int min2_int max_two min_two max_three min_three max_four min_four   -- for this text's walks alone
set_option linter.unusedVariables false
set_option linter.unusedSimpArgs false

attribute [local go_sem high] eqA31
/-! ### laws_FnNumsCoded: function 10 -/
mutual
def laws_FnNumsCoded.l0 : Nat → List Int → Int → List (S31) → List (S31) → Int → Option (Bool)
  | 0, _, _, _, _, _ => none
  | k + 1, x3, x4, x5, x6, x7 => if x7 < (x6.length : Int) then (if 0 ≤ x7 then (if x7 < (x5.length : Int) then (if (!(((rd_T31 x5 x7).f0) == ((rd_T31 x6 x7).f0)) || (!(((rd_T31 x5 x7).f1) == ((rd_T31 x6 x7).f1)))) = true then (some false) else (laws_FnNumsCoded.l0 k x3 x4 x5 x6 (wrap64 (x7 + 1)))) else (none)) else (none)) else (if (x6.length : Int) = 0 then (some true) else (laws_FnNumsCoded.l1 k x3 x4 x5 0 0))
def laws_FnNumsCoded.l1 : Nat → List Int → Int → List (S31) → Int → Int → Option (Bool)
  | 0, _, _, _, _, _ => none
  | k + 1, x3, x4, x5, x8, x9 => if x9 < (x3.length : Int) then (if 0 ≤ x9 then ((impl_BinsOf.f k (rd x3 x9) x4).bind fun t285 => (laws_FnNumsCoded.l1 k x3 x4 x5 (wrap64 (x8 + (t285.length : Int))) (wrap64 (x9 + 1)))) else (none)) else (if x8 = (x5.length : Int) then ((impl_EncodeBins.f x5).bind fun t288 => ((impl_ReadNums.f t288 (x3.length : Int) x4).bind fun t291 => ((laws_sameInts.f k t291 x3).bind fun t294 => (some t294)))) else (some false))
end
def laws_FnNumsCoded.f (k : Nat) (l0 : List Int) : Option (Bool) := (laws_big.f l0).bind fun t271 => (if t271 = true then (some true) else ((spec_DrawListBins.f k l0).bind fun bt272 => ((impl_ListBins.f k bt272.1 bt272.2).bind fun t276 => ((spec_ListBins.f k bt272.1 bt272.2).bind fun t279 => (if (t276.length : Int) = (t279.length : Int) then (laws_FnNumsCoded.l0 k bt272.1 bt272.2 t276 t279 0) else (some false))))))
theorem laws_FnNumsCoded.mono_l : ∀ k, (∀ y0 y1 y2 y3 y4, LeO (laws_FnNumsCoded.l0 k y0 y1 y2 y3 y4) (laws_FnNumsCoded.l0 (k + 1) y0 y1 y2 y3 y4)) ∧ (∀ y0 y1 y2 y3 y4, LeO (laws_FnNumsCoded.l1 k y0 y1 y2 y3 y4) (laws_FnNumsCoded.l1 (k + 1) y0 y1 y2 y3 y4))
  | 0 => ⟨fun _ _ _ _ _ r h => by simp [laws_FnNumsCoded.l0] at h, fun _ _ _ _ _ r h => by simp [laws_FnNumsCoded.l1] at h⟩
  | k + 1 => by
    obtain ⟨ih0, ih1⟩ := laws_FnNumsCoded.mono_l k
    refine ⟨?_, ?_⟩
    · intro y0 y1 y2 y3 y4
      unfold laws_FnNumsCoded.l0
      repeat' first
      | (with_reducible exact ih0 _ _ _ _ _)
      | (with_reducible exact ih1 _ _ _ _ _)
      | (with_reducible exact impl_BinsOf.mono _ _ _)
      | (with_reducible exact impl_ListBins.mono _ _ _)
      | (with_reducible exact laws_sameInts.mono _ _ _)
      | (with_reducible exact spec_DrawListBins.mono _ _)
      | (with_reducible exact spec_ListBins.mono _ _ _)
      | (with_reducible exact LeO.refl _)
      | (with_reducible exact LeO.none _)
      | (with_reducible refine LeO.ite ?_ ?_)
      | (with_reducible refine LeO.bind ?_ (fun _ => ?_))
      | exact ih0 _ _ _ _ _
      | exact ih1 _ _ _ _ _
      | exact impl_BinsOf.mono _ _ _
      | exact impl_ListBins.mono _ _ _
      | exact laws_sameInts.mono _ _ _
      | exact spec_DrawListBins.mono _ _
      | exact spec_ListBins.mono _ _ _
      | exact LeO.none _
      | refine LeO.ite ?_ ?_
      | refine LeO.bind ?_ (fun _ => ?_)
    · intro y0 y1 y2 y3 y4
      unfold laws_FnNumsCoded.l1
      repeat' first
      | (with_reducible exact ih0 _ _ _ _ _)
      | (with_reducible exact ih1 _ _ _ _ _)
      | (with_reducible exact impl_BinsOf.mono _ _ _)
      | (with_reducible exact impl_ListBins.mono _ _ _)
      | (with_reducible exact laws_sameInts.mono _ _ _)
      | (with_reducible exact spec_DrawListBins.mono _ _)
      | (with_reducible exact spec_ListBins.mono _ _ _)
      | (with_reducible exact LeO.refl _)
      | (with_reducible exact LeO.none _)
      | (with_reducible refine LeO.ite ?_ ?_)
      | (with_reducible refine LeO.bind ?_ (fun _ => ?_))
      | exact ih0 _ _ _ _ _
      | exact ih1 _ _ _ _ _
      | exact impl_BinsOf.mono _ _ _
      | exact impl_ListBins.mono _ _ _
      | exact laws_sameInts.mono _ _ _
      | exact spec_DrawListBins.mono _ _
      | exact spec_ListBins.mono _ _ _
      | exact LeO.none _
      | refine LeO.ite ?_ ?_
      | refine LeO.bind ?_ (fun _ => ?_)
theorem laws_FnNumsCoded.mono : ∀ a0 k, LeO (laws_FnNumsCoded.f k a0) (laws_FnNumsCoded.f (k + 1) a0) := by
  intro a0 k
  obtain ⟨ih0, ih1⟩ := laws_FnNumsCoded.mono_l k
  unfold laws_FnNumsCoded.f
  repeat' first
      | (with_reducible exact ih0 _ _ _ _ _)
      | (with_reducible exact ih1 _ _ _ _ _)
      | (with_reducible exact impl_BinsOf.mono _ _ _)
      | (with_reducible exact impl_ListBins.mono _ _ _)
      | (with_reducible exact laws_sameInts.mono _ _ _)
      | (with_reducible exact spec_DrawListBins.mono _ _)
      | (with_reducible exact spec_ListBins.mono _ _ _)
      | (with_reducible exact LeO.refl _)
      | (with_reducible exact LeO.none _)
      | (with_reducible refine LeO.ite ?_ ?_)
      | (with_reducible refine LeO.bind ?_ (fun _ => ?_))
      | exact ih0 _ _ _ _ _
      | exact ih1 _ _ _ _ _
      | exact impl_BinsOf.mono _ _ _
      | exact impl_ListBins.mono _ _ _
      | exact laws_sameInts.mono _ _ _
      | exact spec_DrawListBins.mono _ _
      | exact spec_ListBins.mono _ _ _
      | exact LeO.none _
      | refine LeO.ite ?_ ?_
      | refine LeO.bind ?_ (fun _ => ?_)
set_option maxHeartbeats 8000000 in
set_option maxRecDepth 100000 in
theorem laws_FnNumsCoded.calls (k : Nat) (A0 : Option Addr) (c0 : Nat) (l0 : List Int) (r : Bool) (w : World) (hr0 : Kd.C (Kd.int .u8) w A0 l0.length l0) (hc0 : l0.length ≤ c0) (h : laws_FnNumsCoded.f k l0 = some r) :
    Calls Try.prog 10 #[.slice A0 l0.length c0] w fun e w' => e = .returned (.bool r) ∧ Below w.heap.size w w' := by
  have hu31 := Try.underlying31
  have HR0 := Aside0.mk hr0
  have HC0 := Aside0.mk hc0
  clear hr0 hc0
  have HB := Aside0.mk (Below.refl w.heap.size w)
  have H : ((laws_big.f l0).bind fun t271 => (if t271 = true then (some true) else ((spec_DrawListBins.f k l0).bind fun bt272 => ((impl_ListBins.f k bt272.1 bt272.2).bind fun t276 => ((spec_ListBins.f k bt272.1 bt272.2).bind fun t279 => (if (t276.length : Int) = (t279.length : Int) then (laws_FnNumsCoded.l0 k bt272.1 bt272.2 t276 t279 0) else (some false))))))) = some r := h
  clear h
  replace H := Option.bind_eq_some_iff.mp H
  obtain ⟨t271, A20, H⟩ := H
  replace H : (if t271 = true then (some true) else ((spec_DrawListBins.f k l0).bind fun bt272 => ((impl_ListBins.f k bt272.1 bt272.2).bind fun t276 => ((spec_ListBins.f k bt272.1 bt272.2).bind fun t279 => (if (t276.length : Int) = (t279.length : Int) then (laws_FnNumsCoded.l0 k bt272.1 bt272.2 t276 t279 0) else (some false)))))) = some r := H
  have A2 := Aside0.mk A20
  clear A20
  by_cases c3 : t271 = true
  · subst c3
    have H1 : (some true) = some r := by rw [if_pos rfl] at H; exact H
    clear H
    have H := H1
    clear H1
    obtain rfl := Option.some.inj H
    go_enter Try.func10, Try.ntmps10
    go_wp2_with (first | (go_at_call 20; (with_reducible refine (laws_big.calls _ _ l0 true _ ?side1 ?side2 A2.out).mono ?_); (case side1 => repeat (first | exact HR0.out | (with_reducible refine Kd.C_alloc ?_ _) | (with_reducible refine Kd.C_drewN ?_ _) | (with_reducible refine Kd.C_drew ?_))); (case side2 => exact HC0.out); rintro e w' ⟨rfl, ⟨nd, rfl⟩⟩; (try first | exact ⟨rfl, _, World.drewN_drewN _ _ _⟩ | exact ⟨rfl, _, Eq.trans (World.drewN_drewN _ _ _) (congrArg (World.drewN _) (Nat.add_assoc _ _ _))⟩)))
    repeat (go_quiet (first | (go_at_call 20; (with_reducible refine (laws_big.calls _ _ l0 true _ ?side1 ?side2 A2.out).mono ?_); (case side1 => repeat (first | exact HR0.out | (with_reducible refine Kd.C_alloc ?_ _) | (with_reducible refine Kd.C_drewN ?_ _) | (with_reducible refine Kd.C_drew ?_))); (case side2 => exact HC0.out); rintro e w' ⟨rfl, ⟨nd, rfl⟩⟩; (try first | exact ⟨rfl, _, World.drewN_drewN _ _ _⟩ | exact ⟨rfl, _, Eq.trans (World.drewN_drewN _ _ _) (congrArg (World.drewN _) (Nat.add_assoc _ _ _))⟩))); try go_wp2_with (first | (go_at_call 20; (with_reducible refine (laws_big.calls _ _ l0 true _ ?side1 ?side2 A2.out).mono ?_); (case side1 => repeat (first | exact HR0.out | (with_reducible refine Kd.C_alloc ?_ _) | (with_reducible refine Kd.C_drewN ?_ _) | (with_reducible refine Kd.C_drew ?_))); (case side2 => exact HC0.out); rintro e w' ⟨rfl, ⟨nd, rfl⟩⟩; (try first | exact ⟨rfl, _, World.drewN_drewN _ _ _⟩ | exact ⟨rfl, _, Eq.trans (World.drewN_drewN _ _ _) (congrArg (World.drewN _) (Nat.add_assoc _ _ _))⟩))))
    go_ret
    exact ⟨by first | rfl | (simp [errW_none, errW_some] <;> rfl) | (simp [*, errW_none, errW_some] <;> rfl), by repeat (first | (with_reducible first | exact HB.out | apply below_alloc | apply pw_below_drewN | apply below_drew1) | exact HB.out)⟩
  · replace c3 := Bool.eq_false_iff.mpr c3
    subst c3
    have H1 : ((spec_DrawListBins.f k l0).bind fun bt272 => ((impl_ListBins.f k bt272.1 bt272.2).bind fun t276 => ((spec_ListBins.f k bt272.1 bt272.2).bind fun t279 => (if (t276.length : Int) = (t279.length : Int) then (laws_FnNumsCoded.l0 k bt272.1 bt272.2 t276 t279 0) else (some false))))) = some r := by rw [if_neg (show ¬ (false = true) by decide)] at H; exact H
    clear H
    have H := H1
    clear H1
    replace H := Option.bind_eq_some_iff.mp H
    obtain ⟨⟨t272, t273⟩, A40, H⟩ := H
    replace H : ((impl_ListBins.f k t272 t273).bind fun t276 => ((spec_ListBins.f k t272 t273).bind fun t279 => (if (t276.length : Int) = (t279.length : Int) then (laws_FnNumsCoded.l0 k t272 t273 t276 t279 0) else (some false)))) = some r := H
    have A4 := Aside0.mk A40
    clear A40
    replace H := Option.bind_eq_some_iff.mp H
    obtain ⟨t276, A50, H⟩ := H
    replace H : ((spec_ListBins.f k t272 t273).bind fun t279 => (if (t276.length : Int) = (t279.length : Int) then (laws_FnNumsCoded.l0 k t272 t273 t276 t279 0) else (some false))) = some r := H
    have A5 := Aside0.mk A50
    clear A50
    replace H := Option.bind_eq_some_iff.mp H
    obtain ⟨t279, A60, H⟩ := H
    replace H : (if (t276.length : Int) = (t279.length : Int) then (laws_FnNumsCoded.l0 k t272 t273 t276 t279 0) else (some false)) = some r := H
    have A6 := Aside0.mk A60
    clear A60
    by_cases c7 : (t276.length : Int) = (t279.length : Int)
    · rw [if_pos c7] at H
      have c7b0 : ((t276.length : Int) == (t279.length : Int)) = true := beq_iff_eq.mpr c7
      have c7b1 : ((t276.length : Int) != (t279.length : Int)) = false := bne_eq_false_iff_eq.mpr c7
      have c7b2 : (t276.length == t279.length) = true := by first | simpa using c7 | (simp at c7 ⊢; omega)
      clear c7
      have H' := Aside0.mk H
      clear H
      go_enter Try.func10, Try.ntmps10
      go_wp2_with (first | (go_at_call 20; (with_reducible refine (laws_big.calls _ _ l0 false _ ?side1 ?side2 A2.out).mono ?_); (case side1 => repeat (first | exact HR0.out | (with_reducible refine Kd.C_alloc ?_ _) | (with_reducible refine Kd.C_drewN ?_ _) | (with_reducible refine Kd.C_drew ?_))); (case side2 => exact HC0.out); rintro e w' ⟨rfl, ⟨nd, rfl⟩⟩; (try first | exact ⟨rfl, _, World.drewN_drewN _ _ _⟩ | exact ⟨rfl, _, Eq.trans (World.drewN_drewN _ _ _) (congrArg (World.drewN _) (Nat.add_assoc _ _ _))⟩)) | (go_at_call 43; (with_reducible refine (spec_DrawListBins.calls k _ _ l0 t272 t273 _ ?side1 ?side2 A4.out).mono ?_); (case side1 => repeat (first | exact HR0.out | (with_reducible refine Kd.C_alloc ?_ _) | (with_reducible refine Kd.C_drewN ?_ _) | (with_reducible refine Kd.C_drew ?_))); (case side2 => exact HC0.out); rintro e w8 ⟨v274, rfl, ho0, hb⟩; have n0_ := Aside0.mk (Kd.R_lower ho0 (below_size (by repeat (first | (with_reducible first | exact HB.out | apply below_alloc | apply pw_below_drewN | apply below_drew1) | exact HB.out)))); have n1_ := Aside0.mk (below_step (by repeat (first | (with_reducible first | exact HB.out | apply below_alloc | apply pw_below_drewN | apply below_drew1) | exact HB.out)) hb); clear HB; have HO275 := n0_; have HB := n1_; clear n0_ n1_; (try clear hb); (try clear hb2); (try clear hk); (try clear hi); (try clear ho0); obtain ⟨Ao9, co9, eo9⟩ := Kd.R_slice HO275.out; subst eo9) | (go_at_call 35; (with_reducible refine (impl_ListBins.calls k _ _ t272 t273 t276 _ ?side1 ?side2 A5.out).mono ?_); (case side1 => repeat (first | exact (Kd.R_reads' HO275.out).2.2 | (with_reducible refine Kd.C_alloc ?_ _) | (with_reducible refine Kd.C_drewN ?_ _) | (with_reducible refine Kd.C_drew ?_))); (case side2 => exact (Kd.R_reads' HO275.out).2.1); rintro e w10 ⟨v277, rfl, ho0, hb⟩; have n0_ := Aside0.mk (Kd.R_below (by (with_reducible repeat (first | apply Kd.R_alloc | apply Kd.R_drewN | apply Kd.R_drew)); exact HO275.out) hb); have n1_ := Aside0.mk (Kd.R_lower ho0 (below_size (by repeat (first | (with_reducible first | exact HB.out | apply below_alloc | apply pw_below_drewN | apply below_drew1) | exact HB.out)))); have n2_ := Aside0.mk (below_step (by repeat (first | (with_reducible first | exact HB.out | apply below_alloc | apply pw_below_drewN | apply below_drew1) | exact HB.out)) hb); clear HO275; clear HB; have HO275 := n0_; have HO278 := n1_; have HB := n2_; clear n0_ n1_ n2_; (try clear hb); (try clear hb2); (try clear hk); (try clear hi); (try clear ho0)) | (go_at_call 34; (with_reducible refine (spec_ListBins.calls k _ _ t272 t273 t279 _ ?side1 ?side2 A6.out).mono ?_); (case side1 => repeat (first | exact (Kd.R_reads' HO275.out).2.2 | (with_reducible refine Kd.C_alloc ?_ _) | (with_reducible refine Kd.C_drewN ?_ _) | (with_reducible refine Kd.C_drew ?_))); (case side2 => exact (Kd.R_reads' HO275.out).2.1); rintro e w11 ⟨v280, rfl, ho0, hb⟩; have n0_ := Aside0.mk (Kd.R_below (by (with_reducible repeat (first | apply Kd.R_alloc | apply Kd.R_drewN | apply Kd.R_drew)); exact HO275.out) hb); have n1_ := Aside0.mk (Kd.R_elder' (by (with_reducible repeat (first | apply Kd.R_alloc | apply Kd.R_drewN | apply Kd.R_drew)); exact HO278.out) (Kd.R_base ho0) hb); have n2_ := Aside0.mk (Kd.R_lower (Kd.R_new' ho0 (Kd.R_lt (by (with_reducible repeat (first | apply Kd.R_alloc | apply Kd.R_drewN | apply Kd.R_drew)); exact HO278.out))) (below_size (by repeat (first | (with_reducible first | exact HB.out | apply below_alloc | apply pw_below_drewN | apply below_drew1) | exact HB.out)))); have n3_ := Aside0.mk (below_step (by repeat (first | (with_reducible first | exact HB.out | apply below_alloc | apply pw_below_drewN | apply below_drew1) | exact HB.out)) hb); clear HO275; clear HO278; clear HB; have HO275 := n0_; have HO278 := n1_; have HO281 := n2_; have HB := n3_; clear n0_ n1_ n2_ n3_; (try clear hb); (try clear hb2); (try clear hk); (try clear hi); (try clear ho0); obtain ⟨Ao12, co12, eo12⟩ := Kd.R_slice HO278.out; subst eo12; obtain ⟨Ao13, co13, eo13⟩ := Kd.R_slice HO281.out; subst eo13))
      repeat (go_quiet (first | (go_at_call 20; (with_reducible refine (laws_big.calls _ _ l0 false _ ?side1 ?side2 A2.out).mono ?_); (case side1 => repeat (first | exact HR0.out | (with_reducible refine Kd.C_alloc ?_ _) | (with_reducible refine Kd.C_drewN ?_ _) | (with_reducible refine Kd.C_drew ?_))); (case side2 => exact HC0.out); rintro e w' ⟨rfl, ⟨nd, rfl⟩⟩; (try first | exact ⟨rfl, _, World.drewN_drewN _ _ _⟩ | exact ⟨rfl, _, Eq.trans (World.drewN_drewN _ _ _) (congrArg (World.drewN _) (Nat.add_assoc _ _ _))⟩)) | (go_at_call 43; (with_reducible refine (spec_DrawListBins.calls k _ _ l0 t272 t273 _ ?side1 ?side2 A4.out).mono ?_); (case side1 => repeat (first | exact HR0.out | (with_reducible refine Kd.C_alloc ?_ _) | (with_reducible refine Kd.C_drewN ?_ _) | (with_reducible refine Kd.C_drew ?_))); (case side2 => exact HC0.out); rintro e w8 ⟨v274, rfl, ho0, hb⟩; have n0_ := Aside0.mk (Kd.R_lower ho0 (below_size (by repeat (first | (with_reducible first | exact HB.out | apply below_alloc | apply pw_below_drewN | apply below_drew1) | exact HB.out)))); have n1_ := Aside0.mk (below_step (by repeat (first | (with_reducible first | exact HB.out | apply below_alloc | apply pw_below_drewN | apply below_drew1) | exact HB.out)) hb); clear HB; have HO275 := n0_; have HB := n1_; clear n0_ n1_; (try clear hb); (try clear hb2); (try clear hk); (try clear hi); (try clear ho0); obtain ⟨Ao9, co9, eo9⟩ := Kd.R_slice HO275.out; subst eo9) | (go_at_call 35; (with_reducible refine (impl_ListBins.calls k _ _ t272 t273 t276 _ ?side1 ?side2 A5.out).mono ?_); (case side1 => repeat (first | exact (Kd.R_reads' HO275.out).2.2 | (with_reducible refine Kd.C_alloc ?_ _) | (with_reducible refine Kd.C_drewN ?_ _) | (with_reducible refine Kd.C_drew ?_))); (case side2 => exact (Kd.R_reads' HO275.out).2.1); rintro e w10 ⟨v277, rfl, ho0, hb⟩; have n0_ := Aside0.mk (Kd.R_below (by (with_reducible repeat (first | apply Kd.R_alloc | apply Kd.R_drewN | apply Kd.R_drew)); exact HO275.out) hb); have n1_ := Aside0.mk (Kd.R_lower ho0 (below_size (by repeat (first | (with_reducible first | exact HB.out | apply below_alloc | apply pw_below_drewN | apply below_drew1) | exact HB.out)))); have n2_ := Aside0.mk (below_step (by repeat (first | (with_reducible first | exact HB.out | apply below_alloc | apply pw_below_drewN | apply below_drew1) | exact HB.out)) hb); clear HO275; clear HB; have HO275 := n0_; have HO278 := n1_; have HB := n2_; clear n0_ n1_ n2_; (try clear hb); (try clear hb2); (try clear hk); (try clear hi); (try clear ho0)) | (go_at_call 34; (with_reducible refine (spec_ListBins.calls k _ _ t272 t273 t279 _ ?side1 ?side2 A6.out).mono ?_); (case side1 => repeat (first | exact (Kd.R_reads' HO275.out).2.2 | (with_reducible refine Kd.C_alloc ?_ _) | (with_reducible refine Kd.C_drewN ?_ _) | (with_reducible refine Kd.C_drew ?_))); (case side2 => exact (Kd.R_reads' HO275.out).2.1); rintro e w11 ⟨v280, rfl, ho0, hb⟩; have n0_ := Aside0.mk (Kd.R_below (by (with_reducible repeat (first | apply Kd.R_alloc | apply Kd.R_drewN | apply Kd.R_drew)); exact HO275.out) hb); have n1_ := Aside0.mk (Kd.R_elder' (by (with_reducible repeat (first | apply Kd.R_alloc | apply Kd.R_drewN | apply Kd.R_drew)); exact HO278.out) (Kd.R_base ho0) hb); have n2_ := Aside0.mk (Kd.R_lower (Kd.R_new' ho0 (Kd.R_lt (by (with_reducible repeat (first | apply Kd.R_alloc | apply Kd.R_drewN | apply Kd.R_drew)); exact HO278.out))) (below_size (by repeat (first | (with_reducible first | exact HB.out | apply below_alloc | apply pw_below_drewN | apply below_drew1) | exact HB.out)))); have n3_ := Aside0.mk (below_step (by repeat (first | (with_reducible first | exact HB.out | apply below_alloc | apply pw_below_drewN | apply below_drew1) | exact HB.out)) hb); clear HO275; clear HO278; clear HB; have HO275 := n0_; have HO278 := n1_; have HO281 := n2_; have HB := n3_; clear n0_ n1_ n2_ n3_; (try clear hb); (try clear hb2); (try clear hk); (try clear hi); (try clear ho0); obtain ⟨Ao12, co12, eo12⟩ := Kd.R_slice HO278.out; subst eo12; obtain ⟨Ao13, co13, eo13⟩ := Kd.R_slice HO281.out; subst eo13)); try go_wp2_with (first | (go_at_call 20; (with_reducible refine (laws_big.calls _ _ l0 false _ ?side1 ?side2 A2.out).mono ?_); (case side1 => repeat (first | exact HR0.out | (with_reducible refine Kd.C_alloc ?_ _) | (with_reducible refine Kd.C_drewN ?_ _) | (with_reducible refine Kd.C_drew ?_))); (case side2 => exact HC0.out); rintro e w' ⟨rfl, ⟨nd, rfl⟩⟩; (try first | exact ⟨rfl, _, World.drewN_drewN _ _ _⟩ | exact ⟨rfl, _, Eq.trans (World.drewN_drewN _ _ _) (congrArg (World.drewN _) (Nat.add_assoc _ _ _))⟩)) | (go_at_call 43; (with_reducible refine (spec_DrawListBins.calls k _ _ l0 t272 t273 _ ?side1 ?side2 A4.out).mono ?_); (case side1 => repeat (first | exact HR0.out | (with_reducible refine Kd.C_alloc ?_ _) | (with_reducible refine Kd.C_drewN ?_ _) | (with_reducible refine Kd.C_drew ?_))); (case side2 => exact HC0.out); rintro e w8 ⟨v274, rfl, ho0, hb⟩; have n0_ := Aside0.mk (Kd.R_lower ho0 (below_size (by repeat (first | (with_reducible first | exact HB.out | apply below_alloc | apply pw_below_drewN | apply below_drew1) | exact HB.out)))); have n1_ := Aside0.mk (below_step (by repeat (first | (with_reducible first | exact HB.out | apply below_alloc | apply pw_below_drewN | apply below_drew1) | exact HB.out)) hb); clear HB; have HO275 := n0_; have HB := n1_; clear n0_ n1_; (try clear hb); (try clear hb2); (try clear hk); (try clear hi); (try clear ho0); obtain ⟨Ao9, co9, eo9⟩ := Kd.R_slice HO275.out; subst eo9) | (go_at_call 35; (with_reducible refine (impl_ListBins.calls k _ _ t272 t273 t276 _ ?side1 ?side2 A5.out).mono ?_); (case side1 => repeat (first | exact (Kd.R_reads' HO275.out).2.2 | (with_reducible refine Kd.C_alloc ?_ _) | (with_reducible refine Kd.C_drewN ?_ _) | (with_reducible refine Kd.C_drew ?_))); (case side2 => exact (Kd.R_reads' HO275.out).2.1); rintro e w10 ⟨v277, rfl, ho0, hb⟩; have n0_ := Aside0.mk (Kd.R_below (by (with_reducible repeat (first | apply Kd.R_alloc | apply Kd.R_drewN | apply Kd.R_drew)); exact HO275.out) hb); have n1_ := Aside0.mk (Kd.R_lower ho0 (below_size (by repeat (first | (with_reducible first | exact HB.out | apply below_alloc | apply pw_below_drewN | apply below_drew1) | exact HB.out)))); have n2_ := Aside0.mk (below_step (by repeat (first | (with_reducible first | exact HB.out | apply below_alloc | apply pw_below_drewN | apply below_drew1) | exact HB.out)) hb); clear HO275; clear HB; have HO275 := n0_; have HO278 := n1_; have HB := n2_; clear n0_ n1_ n2_; (try clear hb); (try clear hb2); (try clear hk); (try clear hi); (try clear ho0)) | (go_at_call 34; (with_reducible refine (spec_ListBins.calls k _ _ t272 t273 t279 _ ?side1 ?side2 A6.out).mono ?_); (case side1 => repeat (first | exact (Kd.R_reads' HO275.out).2.2 | (with_reducible refine Kd.C_alloc ?_ _) | (with_reducible refine Kd.C_drewN ?_ _) | (with_reducible refine Kd.C_drew ?_))); (case side2 => exact (Kd.R_reads' HO275.out).2.1); rintro e w11 ⟨v280, rfl, ho0, hb⟩; have n0_ := Aside0.mk (Kd.R_below (by (with_reducible repeat (first | apply Kd.R_alloc | apply Kd.R_drewN | apply Kd.R_drew)); exact HO275.out) hb); have n1_ := Aside0.mk (Kd.R_elder' (by (with_reducible repeat (first | apply Kd.R_alloc | apply Kd.R_drewN | apply Kd.R_drew)); exact HO278.out) (Kd.R_base ho0) hb); have n2_ := Aside0.mk (Kd.R_lower (Kd.R_new' ho0 (Kd.R_lt (by (with_reducible repeat (first | apply Kd.R_alloc | apply Kd.R_drewN | apply Kd.R_drew)); exact HO278.out))) (below_size (by repeat (first | (with_reducible first | exact HB.out | apply below_alloc | apply pw_below_drewN | apply below_drew1) | exact HB.out)))); have n3_ := Aside0.mk (below_step (by repeat (first | (with_reducible first | exact HB.out | apply below_alloc | apply pw_below_drewN | apply below_drew1) | exact HB.out)) hb); clear HO275; clear HO278; clear HB; have HO275 := n0_; have HO278 := n1_; have HO281 := n2_; have HB := n3_; clear n0_ n1_ n2_ n3_; (try clear hb); (try clear hb2); (try clear hk); (try clear hi); (try clear ho0); obtain ⟨Ao12, co12, eo12⟩ := Kd.R_slice HO278.out; subst eo12; obtain ⟨Ao13, co13, eo13⟩ := Kd.R_slice HO281.out; subst eo13)))
      go_loopg [7] k (fun kq v7 w' => ∃ (x7_1 : Int), v7 = .int .i64 x7_1 ∧ Aside0 (laws_FnNumsCoded.l0 kq t272 t273 t276 t279 x7_1 = some r) ∧ Aside0 (kq ≤ k) ∧ Aside0 (Kd.R (Kd.int .i64) 3 w' w.heap.size (fun _ => True) (.slice Ao9 t272.length co9) t272) ∧ Aside0 (Kd.R k31 31 w' w.heap.size (fun k_ => some k_ ≠ ((.slice Ao13 t279.length co13) : Value).ownBlock) (.slice Ao12 t276.length co12) t276) ∧ Aside0 (Kd.R k31 31 w' w.heap.size (fun k_ => some k_ ≠ ((.slice Ao12 t276.length co12) : Value).ownBlock) (.slice Ao13 t279.length co13) t279) ∧ Aside0 (Below w.heap.size w w'))
      case atStart => exact ⟨(0), (by first | rfl | (simp; done) | (simp [*]; done)), H', ⟨Nat.le_refl _⟩, ⟨by (with_reducible repeat (first | apply Kd.R_alloc | apply Kd.R_drewN | apply Kd.R_drew)); exact HO275.out⟩, ⟨by (with_reducible repeat (first | apply Kd.R_alloc | apply Kd.R_drewN | apply Kd.R_drew)); exact Kd.R_mono HO278.out (fun _ hk => hk.2)⟩, ⟨by (with_reducible repeat (first | apply Kd.R_alloc | apply Kd.R_drewN | apply Kd.R_drew)); exact Kd.R_mono HO281.out (fun _ hk => hk.2)⟩, ⟨by repeat (first | (with_reducible first | exact HB.out | apply below_alloc | apply pw_below_drewN | apply below_drew1) | exact HB.out)⟩⟩
      case round =>
        clear H'
        try clear c1
        try clear p2
        try clear c3
        try clear c7
        try clear c7b0
        try clear c7b1
        try clear c7b2
        try clear c10
        obtain ⟨x7_1, rfl, HA, HK1, HO_3, HO_5, HO_6, HB⟩ := hrel
        cases gk with
        | zero => exact absurd HA.out (by simp [laws_FnNumsCoded.l0])
        | succ k1 =>
          have H := HA.out
          clear HA
          simp only [laws_FnNumsCoded.l0] at H
          by_cases c14 : x7_1 < (t279.length : Int)
          · rw [if_pos c14] at H
            have c14b0 : decide (x7_1 < (t279.length : Int)) = true := decide_eq_true c14
            clear c14
            by_cases c15 : 0 ≤ x7_1
            · rw [if_pos c15] at H
              have c15b0 : decide (0 ≤ x7_1) = true := decide_eq_true c15
              clear c15
              by_cases c16 : x7_1 < (t276.length : Int)
              · rw [if_pos c16] at H
                have c16b0 : decide (x7_1 < (t276.length : Int)) = true := decide_eq_true c16
                clear c16
                by_cases c17 : (!(((rd_T31 t276 x7_1).f0) == ((rd_T31 t279 x7_1).f0)) || (!(((rd_T31 t276 x7_1).f1) == ((rd_T31 t279 x7_1).f1)))) = true
                · rw [if_pos c17] at H
                  have c17b0 : (!(((rd_T31 t276 x7_1).f0) == ((rd_T31 t279 x7_1).f0)) || (!(((rd_T31 t276 x7_1).f1) == ((rd_T31 t279 x7_1).f1)))) = true := c17
                  clear c17
                  obtain rfl := Option.some.inj H
                  have p282 : 0 ≤ (x7_1 : Int) := of_decide_eq_true (by first | (with_reducible assumption) | assumption)
                  have q282 : x7_1 < (t276.length : Int) := of_decide_eq_true (by first | (with_reducible assumption) | assumption)
                  obtain ⟨ad282, e282, hx282_0, hx282_1⟩ := at_T31 (Kd.R_reads' HO_5.out).2.2 x7_1 p282 q282
                  cases e282
                  replace p282 := eq_true p282
                  replace q282 := eq_true q282
                  have p283 : 0 ≤ (x7_1 : Int) := of_decide_eq_true (by first | (with_reducible assumption) | assumption)
                  have q283 : x7_1 < (t279.length : Int) := of_decide_eq_true (by first | (with_reducible assumption) | assumption)
                  obtain ⟨ad283, e283, hx283_0, hx283_1⟩ := at_T31 (Kd.R_reads' HO_6.out).2.2 x7_1 p283 q283
                  cases e283
                  replace p283 := eq_true p283
                  replace q283 := eq_true q283
                  go_wp2
                  repeat (go_quiet (fail); try go_wp2)
                  go_ret
                  exact ⟨by first | rfl | (simp [errW_none, errW_some] <;> rfl) | (simp [*, errW_none, errW_some] <;> rfl), by repeat (first | (with_reducible first | exact HB.out | apply below_alloc | apply pw_below_drewN | apply below_drew1) | exact HB.out)⟩
                · rw [if_neg c17] at H
                  have c17b0 : (!(((rd_T31 t276 x7_1).f0) == ((rd_T31 t279 x7_1).f0)) || (!(((rd_T31 t276 x7_1).f1) == ((rd_T31 t279 x7_1).f1)))) = false := by simpa using c17
                  clear c17
                  have H' := Aside0.mk H
                  clear H
                  have p282 : 0 ≤ (x7_1 : Int) := of_decide_eq_true (by first | (with_reducible assumption) | assumption)
                  have q282 : x7_1 < (t276.length : Int) := of_decide_eq_true (by first | (with_reducible assumption) | assumption)
                  obtain ⟨ad282, e282, hx282_0, hx282_1⟩ := at_T31 (Kd.R_reads' HO_5.out).2.2 x7_1 p282 q282
                  cases e282
                  replace p282 := eq_true p282
                  replace q282 := eq_true q282
                  have p283 : 0 ≤ (x7_1 : Int) := of_decide_eq_true (by first | (with_reducible assumption) | assumption)
                  have q283 : x7_1 < (t279.length : Int) := of_decide_eq_true (by first | (with_reducible assumption) | assumption)
                  obtain ⟨ad283, e283, hx283_0, hx283_1⟩ := at_T31 (Kd.R_reads' HO_6.out).2.2 x7_1 p283 q283
                  cases e283
                  replace p283 := eq_true p283
                  replace q283 := eq_true q283
                  go_wp2
                  repeat (go_quiet (fail); try go_wp2)
                  go_roundg k1
                  case measure => have := HK1.out; omega
                  case rel => exact ⟨(wrap64 (x7_1 + 1)), (by first | rfl | (simp; done) | (simp [*]; done)), H', ⟨by have := HK1.out; omega⟩, ⟨by (with_reducible repeat (first | apply Kd.R_alloc | apply Kd.R_drewN | apply Kd.R_drew)); exact HO_3.out⟩, ⟨by (with_reducible repeat (first | apply Kd.R_alloc | apply Kd.R_drewN | apply Kd.R_drew)); exact HO_5.out⟩, ⟨by (with_reducible repeat (first | apply Kd.R_alloc | apply Kd.R_drewN | apply Kd.R_drew)); exact HO_6.out⟩, ⟨by repeat (first | (with_reducible first | exact HB.out | apply below_alloc | apply pw_below_drewN | apply below_drew1) | exact HB.out)⟩⟩
              · rw [if_neg c16] at H
                exact absurd H (by simp)
            · rw [if_neg c15] at H
              exact absurd H (by simp)
          · rw [if_neg c14] at H
            have c14b0 : decide (x7_1 < (t279.length : Int)) = false := decide_eq_false c14
            clear c14
            by_cases c18 : (t279.length : Int) = 0
            · rw [if_pos c18] at H
              have c18b0 : ((t279.length : Int) == 0) = true := beq_iff_eq.mpr c18
              have c18b1 : ((t279.length : Int) != 0) = false := bne_eq_false_iff_eq.mpr c18
              clear c18
              obtain rfl := Option.some.inj H
              go_wp2
              repeat (go_quiet (fail); try go_wp2)
              go_ret
              exact ⟨by first | rfl | (simp [errW_none, errW_some] <;> rfl) | (simp [*, errW_none, errW_some] <;> rfl), by repeat (first | (with_reducible first | exact HB.out | apply below_alloc | apply pw_below_drewN | apply below_drew1) | exact HB.out)⟩
            · rw [if_neg c18] at H
              have c18b0 : ((t279.length : Int) == 0) = false := beq_eq_false_iff_ne.mpr c18
              have c18b1 : ((t279.length : Int) != 0) = true := bne_iff_ne.mpr c18
              have c18b2 : ¬ (t279 = []) := fun h_ => c18 (by rw [h_]; rfl)
              have H' := Aside0.mk H
              clear H
              go_wp2
              repeat (go_quiet (fail); try go_wp2)
              go_loopg [8, 9] k1 (fun kq v8 v9 w' => ∃ (x8_2 : Int) (x9_2 : Int), v8 = .int .i64 x8_2 ∧ v9 = .int .i64 x9_2 ∧ Aside0 (laws_FnNumsCoded.l1 kq t272 t273 t276 x8_2 x9_2 = some r) ∧ Aside0 (kq ≤ k1) ∧ Aside0 (Kd.R (Kd.int .i64) 3 w' w.heap.size (fun _ => True) (.slice Ao9 t272.length co9) t272) ∧ Aside0 (Kd.R k31 31 w' w.heap.size (fun _ => True) (.slice Ao12 t276.length co12) t276) ∧ Aside0 (Below w.heap.size w w'))
              case atStart => exact ⟨(0), (0), (by first | rfl | (simp; done) | (simp [*]; done)), (by first | rfl | (simp; done) | (simp [*]; done)), H', ⟨Nat.le_refl _⟩, ⟨by (with_reducible repeat (first | apply Kd.R_alloc | apply Kd.R_drewN | apply Kd.R_drew)); exact HO_3.out⟩, ⟨by (with_reducible repeat (first | apply Kd.R_alloc | apply Kd.R_drewN | apply Kd.R_drew)); exact Kd.R_mono HO_5.out (fun _ hk => trivial)⟩, ⟨by repeat (first | (with_reducible first | exact HB.out | apply below_alloc | apply pw_below_drewN | apply below_drew1) | exact HB.out)⟩⟩
              case round =>
                clear H'
                try clear c1
                try clear p2
                try clear q2
                try clear hx2
                try clear c3
                try clear p6
                try clear c7
                try clear c7b0
                try clear c7b1
                try clear c7b2
                try clear c10
                try clear c14
                try clear c14b0
                try clear c15
                try clear c15b0
                try clear c16
                try clear c16b0
                try clear c17
                try clear c17b0
                try clear c18
                try clear c18b0
                try clear c18b1
                try clear c18b2
                try clear hx282_0
                try clear hx282_1
                try clear hx283_0
                try clear hx283_1
                try clear p2
                try clear p282
                try clear p283
                try clear q282
                try clear q283
                obtain ⟨x8_2, x9_2, rfl, rfl, HA, HK2, HO_3, HO_5, HB⟩ := hrel
                cases gk with
                | zero => exact absurd HA.out (by simp [laws_FnNumsCoded.l1])
                | succ k2 =>
                  have H := HA.out
                  clear HA
                  simp only [laws_FnNumsCoded.l1] at H
                  by_cases c19 : x9_2 < (t272.length : Int)
                  · rw [if_pos c19] at H
                    have c19b0 : decide (x9_2 < (t272.length : Int)) = true := decide_eq_true c19
                    clear c19
                    by_cases c20 : 0 ≤ x9_2
                    · rw [if_pos c20] at H
                      have c20b0 : decide (0 ≤ x9_2) = true := decide_eq_true c20
                      clear c20
                      replace H := Option.bind_eq_some_iff.mp H
                      obtain ⟨t285, A210, H⟩ := H
                      replace H : (laws_FnNumsCoded.l1 k2 t272 t273 t276 (wrap64 (x8_2 + (t285.length : Int))) (wrap64 (x9_2 + 1))) = some r := H
                      have A21 := Aside0.mk A210
                      clear A210
                      have H' := Aside0.mk H
                      clear H
                      have p284 : 0 ≤ (x9_2 : Int) := of_decide_eq_true (by first | (with_reducible assumption) | assumption)
                      have q284 : x9_2 < (t272.length : Int) := of_decide_eq_true (by first | (with_reducible assumption) | assumption)
                      obtain ⟨ad284, e284, hx284_0⟩ := Kd.at_int (Kd.R_reads' HO_3.out).2.2 x9_2 p284 q284
                      cases e284
                      replace p284 := eq_true p284
                      replace q284 := eq_true q284
                      go_wp2_with (first | (go_at_call 16; (with_reducible refine (impl_BinsOf.calls k2 (rd t272 x9_2) t273 t285 _ A21.out).mono ?_); rintro e w22 ⟨v286, rfl, ho0, hb⟩; have n0_ := Aside0.mk (Kd.R_below (by (with_reducible repeat (first | apply Kd.R_alloc | apply Kd.R_drewN | apply Kd.R_drew)); exact HO_3.out) hb); have n1_ := Aside0.mk (Kd.R_elder' (by (with_reducible repeat (first | apply Kd.R_alloc | apply Kd.R_drewN | apply Kd.R_drew)); exact HO_5.out) (Kd.R_base ho0) hb); have n2_ := Aside0.mk (Kd.R_lower (Kd.R_new' ho0 (Kd.R_lt (by (with_reducible repeat (first | apply Kd.R_alloc | apply Kd.R_drewN | apply Kd.R_drew)); exact HO_5.out))) (below_size (by repeat (first | (with_reducible first | exact HB.out | apply below_alloc | apply pw_below_drewN | apply below_drew1) | exact HB.out)))); have n3_ := Aside0.mk (below_step (by repeat (first | (with_reducible first | exact HB.out | apply below_alloc | apply pw_below_drewN | apply below_drew1) | exact HB.out)) hb); clear HO_3; clear HO_5; clear HB; have HO_3 := n0_; have HO_5 := n1_; have HO287 := n2_; have HB := n3_; clear n0_ n1_ n2_ n3_; (try clear hb); (try clear hb2); (try clear hk); (try clear hi); (try clear ho0); obtain ⟨Ao23, co23, eo23⟩ := Kd.R_slice HO287.out; subst eo23))
                      repeat (go_quiet (first | (go_at_call 16; (with_reducible refine (impl_BinsOf.calls k2 (rd t272 x9_2) t273 t285 _ A21.out).mono ?_); rintro e w22 ⟨v286, rfl, ho0, hb⟩; have n0_ := Aside0.mk (Kd.R_below (by (with_reducible repeat (first | apply Kd.R_alloc | apply Kd.R_drewN | apply Kd.R_drew)); exact HO_3.out) hb); have n1_ := Aside0.mk (Kd.R_elder' (by (with_reducible repeat (first | apply Kd.R_alloc | apply Kd.R_drewN | apply Kd.R_drew)); exact HO_5.out) (Kd.R_base ho0) hb); have n2_ := Aside0.mk (Kd.R_lower (Kd.R_new' ho0 (Kd.R_lt (by (with_reducible repeat (first | apply Kd.R_alloc | apply Kd.R_drewN | apply Kd.R_drew)); exact HO_5.out))) (below_size (by repeat (first | (with_reducible first | exact HB.out | apply below_alloc | apply pw_below_drewN | apply below_drew1) | exact HB.out)))); have n3_ := Aside0.mk (below_step (by repeat (first | (with_reducible first | exact HB.out | apply below_alloc | apply pw_below_drewN | apply below_drew1) | exact HB.out)) hb); clear HO_3; clear HO_5; clear HB; have HO_3 := n0_; have HO_5 := n1_; have HO287 := n2_; have HB := n3_; clear n0_ n1_ n2_ n3_; (try clear hb); (try clear hb2); (try clear hk); (try clear hi); (try clear ho0); obtain ⟨Ao23, co23, eo23⟩ := Kd.R_slice HO287.out; subst eo23)); try go_wp2_with (first | (go_at_call 16; (with_reducible refine (impl_BinsOf.calls k2 (rd t272 x9_2) t273 t285 _ A21.out).mono ?_); rintro e w22 ⟨v286, rfl, ho0, hb⟩; have n0_ := Aside0.mk (Kd.R_below (by (with_reducible repeat (first | apply Kd.R_alloc | apply Kd.R_drewN | apply Kd.R_drew)); exact HO_3.out) hb); have n1_ := Aside0.mk (Kd.R_elder' (by (with_reducible repeat (first | apply Kd.R_alloc | apply Kd.R_drewN | apply Kd.R_drew)); exact HO_5.out) (Kd.R_base ho0) hb); have n2_ := Aside0.mk (Kd.R_lower (Kd.R_new' ho0 (Kd.R_lt (by (with_reducible repeat (first | apply Kd.R_alloc | apply Kd.R_drewN | apply Kd.R_drew)); exact HO_5.out))) (below_size (by repeat (first | (with_reducible first | exact HB.out | apply below_alloc | apply pw_below_drewN | apply below_drew1) | exact HB.out)))); have n3_ := Aside0.mk (below_step (by repeat (first | (with_reducible first | exact HB.out | apply below_alloc | apply pw_below_drewN | apply below_drew1) | exact HB.out)) hb); clear HO_3; clear HO_5; clear HB; have HO_3 := n0_; have HO_5 := n1_; have HO287 := n2_; have HB := n3_; clear n0_ n1_ n2_ n3_; (try clear hb); (try clear hb2); (try clear hk); (try clear hi); (try clear ho0); obtain ⟨Ao23, co23, eo23⟩ := Kd.R_slice HO287.out; subst eo23)))
                      go_roundg k2
                      case measure => have := HK1.out; have := HK2.out; omega
                      case rel => exact ⟨(wrap64 (x8_2 + (t285.length : Int))), (wrap64 (x9_2 + 1)), (by first | rfl | (simp; done) | (simp [*]; done)), (by first | rfl | (simp; done) | (simp [*]; done)), H', ⟨by have := HK1.out; have := HK2.out; omega⟩, ⟨by (with_reducible repeat (first | apply Kd.R_alloc | apply Kd.R_drewN | apply Kd.R_drew)); exact HO_3.out⟩, ⟨by (with_reducible repeat (first | apply Kd.R_alloc | apply Kd.R_drewN | apply Kd.R_drew)); exact Kd.R_mono HO_5.out (fun _ hk => trivial)⟩, ⟨by repeat (first | (with_reducible first | exact HB.out | apply below_alloc | apply pw_below_drewN | apply below_drew1) | exact HB.out)⟩⟩
                    · rw [if_neg c20] at H
                      exact absurd H (by simp)
                  · rw [if_neg c19] at H
                    have c19b0 : decide (x9_2 < (t272.length : Int)) = false := decide_eq_false c19
                    clear c19
                    by_cases c24 : x8_2 = (t276.length : Int)
                    · rw [if_pos c24] at H
                      have c24b0 : (x8_2 == (t276.length : Int)) = true := beq_iff_eq.mpr c24
                      have c24b1 : (x8_2 != (t276.length : Int)) = false := bne_eq_false_iff_eq.mpr c24
                      clear c24
                      replace H := Option.bind_eq_some_iff.mp H
                      obtain ⟨t288, A250, H⟩ := H
                      replace H : ((impl_ReadNums.f t288 (t272.length : Int) t273).bind fun t291 => ((laws_sameInts.f k2 t291 t272).bind fun t294 => (some t294))) = some r := H
                      have A25 := Aside0.mk A250
                      clear A250
                      replace H := Option.bind_eq_some_iff.mp H
                      obtain ⟨t291, A260, H⟩ := H
                      replace H : ((laws_sameInts.f k2 t291 t272).bind fun t294 => (some t294)) = some r := H
                      have A26 := Aside0.mk A260
                      clear A260
                      replace H := Option.bind_eq_some_iff.mp H
                      obtain ⟨t294, A270, H⟩ := H
                      replace H : (some t294) = some r := H
                      have A27 := Aside0.mk A270
                      clear A270
                      obtain rfl := Option.some.inj H
                      go_wp2_with (first | (go_at_call 22; (with_reducible refine (impl_EncodeBins.calls _ _ t276 t288 _ ?side1 ?side2 A25.out).mono ?_); (case side1 => repeat (first | exact (Kd.R_reads' HO_5.out).2.2 | (with_reducible refine Kd.C_alloc ?_ _) | (with_reducible refine Kd.C_drewN ?_ _) | (with_reducible refine Kd.C_drew ?_))); (case side2 => exact (Kd.R_reads' HO_5.out).2.1); rintro e w28 ⟨v289, rfl, ho0, hb⟩; have n0_ := Aside0.mk (Kd.R_below (by (with_reducible repeat (first | apply Kd.R_alloc | apply Kd.R_drewN | apply Kd.R_drew)); exact HO_3.out) hb); have n1_ := Aside0.mk (Kd.R_below (by (with_reducible repeat (first | apply Kd.R_alloc | apply Kd.R_drewN | apply Kd.R_drew)); exact HO_5.out) hb); have n2_ := Aside0.mk (Kd.R_lower ho0 (below_size (by repeat (first | (with_reducible first | exact HB.out | apply below_alloc | apply pw_below_drewN | apply below_drew1) | exact HB.out)))); have n3_ := Aside0.mk (below_step (by repeat (first | (with_reducible first | exact HB.out | apply below_alloc | apply pw_below_drewN | apply below_drew1) | exact HB.out)) hb); clear HO_3; clear HO_5; clear HB; have HO_3 := n0_; have HO_5 := n1_; have HO290 := n2_; have HB := n3_; clear n0_ n1_ n2_ n3_; (try clear hb); (try clear hb2); (try clear hk); (try clear hi); (try clear ho0); obtain ⟨Ao29, co29, eo29⟩ := Kd.R_slice HO290.out; subst eo29) | (go_at_call 37; (with_reducible refine (impl_ReadNums.calls _ _ t288 (t272.length : Int) t273 t291 _ ?side1 ?side2 A26.out).mono ?_); (case side1 => repeat (first | exact (Kd.R_reads' HO290.out).2.2 | (with_reducible refine Kd.C_alloc ?_ _) | (with_reducible refine Kd.C_drewN ?_ _) | (with_reducible refine Kd.C_drew ?_))); (case side2 => exact (Kd.R_reads' HO290.out).2.1); rintro e w30 ⟨v292, rfl, ho0, hb⟩; have n0_ := Aside0.mk (Kd.R_elder' (by (with_reducible repeat (first | apply Kd.R_alloc | apply Kd.R_drewN | apply Kd.R_drew)); exact HO_3.out) (Kd.R_base ho0) hb); have n1_ := Aside0.mk (Kd.R_below (by (with_reducible repeat (first | apply Kd.R_alloc | apply Kd.R_drewN | apply Kd.R_drew)); exact HO_5.out) hb); have n2_ := Aside0.mk (Kd.R_below (by (with_reducible repeat (first | apply Kd.R_alloc | apply Kd.R_drewN | apply Kd.R_drew)); exact HO290.out) hb); have n3_ := Aside0.mk (Kd.R_lower (Kd.R_new' ho0 (Kd.R_lt (by (with_reducible repeat (first | apply Kd.R_alloc | apply Kd.R_drewN | apply Kd.R_drew)); exact HO_3.out))) (below_size (by repeat (first | (with_reducible first | exact HB.out | apply below_alloc | apply pw_below_drewN | apply below_drew1) | exact HB.out)))); have n4_ := Aside0.mk (below_step (by repeat (first | (with_reducible first | exact HB.out | apply below_alloc | apply pw_below_drewN | apply below_drew1) | exact HB.out)) hb); clear HO_3; clear HO_5; clear HO290; clear HB; have HO_3 := n0_; have HO_5 := n1_; have HO290 := n2_; have HO293 := n3_; have HB := n4_; clear n0_ n1_ n2_ n3_ n4_; (try clear hb); (try clear hb2); (try clear hk); (try clear hi); (try clear ho0); obtain ⟨Ao31, co31, eo31⟩ := Kd.R_slice HO293.out; subst eo31) | (go_at_call 42; (with_reducible refine (laws_sameInts.calls k2 _ _ t291 _ _ t272 t294 _ ?side1 ?side2 ?side3 ?side4 A27.out).mono ?_); (case side1 => repeat (first | exact (Kd.R_reads' HO293.out).2.2 | (with_reducible refine Kd.C_alloc ?_ _) | (with_reducible refine Kd.C_drewN ?_ _) | (with_reducible refine Kd.C_drew ?_))); (case side2 => exact (Kd.R_reads' HO293.out).2.1); (case side3 => repeat (first | exact (Kd.R_reads' HO_3.out).2.2 | (with_reducible refine Kd.C_alloc ?_ _) | (with_reducible refine Kd.C_drewN ?_ _) | (with_reducible refine Kd.C_drew ?_))); (case side4 => exact (Kd.R_reads' HO_3.out).2.1); rintro e w' ⟨rfl, ⟨nd, rfl⟩⟩; (try first | exact ⟨rfl, _, World.drewN_drewN _ _ _⟩ | exact ⟨rfl, _, Eq.trans (World.drewN_drewN _ _ _) (congrArg (World.drewN _) (Nat.add_assoc _ _ _))⟩)))
                      repeat (go_quiet (first | (go_at_call 22; (with_reducible refine (impl_EncodeBins.calls _ _ t276 t288 _ ?side1 ?side2 A25.out).mono ?_); (case side1 => repeat (first | exact (Kd.R_reads' HO_5.out).2.2 | (with_reducible refine Kd.C_alloc ?_ _) | (with_reducible refine Kd.C_drewN ?_ _) | (with_reducible refine Kd.C_drew ?_))); (case side2 => exact (Kd.R_reads' HO_5.out).2.1); rintro e w28 ⟨v289, rfl, ho0, hb⟩; have n0_ := Aside0.mk (Kd.R_below (by (with_reducible repeat (first | apply Kd.R_alloc | apply Kd.R_drewN | apply Kd.R_drew)); exact HO_3.out) hb); have n1_ := Aside0.mk (Kd.R_below (by (with_reducible repeat (first | apply Kd.R_alloc | apply Kd.R_drewN | apply Kd.R_drew)); exact HO_5.out) hb); have n2_ := Aside0.mk (Kd.R_lower ho0 (below_size (by repeat (first | (with_reducible first | exact HB.out | apply below_alloc | apply pw_below_drewN | apply below_drew1) | exact HB.out)))); have n3_ := Aside0.mk (below_step (by repeat (first | (with_reducible first | exact HB.out | apply below_alloc | apply pw_below_drewN | apply below_drew1) | exact HB.out)) hb); clear HO_3; clear HO_5; clear HB; have HO_3 := n0_; have HO_5 := n1_; have HO290 := n2_; have HB := n3_; clear n0_ n1_ n2_ n3_; (try clear hb); (try clear hb2); (try clear hk); (try clear hi); (try clear ho0); obtain ⟨Ao29, co29, eo29⟩ := Kd.R_slice HO290.out; subst eo29) | (go_at_call 37; (with_reducible refine (impl_ReadNums.calls _ _ t288 (t272.length : Int) t273 t291 _ ?side1 ?side2 A26.out).mono ?_); (case side1 => repeat (first | exact (Kd.R_reads' HO290.out).2.2 | (with_reducible refine Kd.C_alloc ?_ _) | (with_reducible refine Kd.C_drewN ?_ _) | (with_reducible refine Kd.C_drew ?_))); (case side2 => exact (Kd.R_reads' HO290.out).2.1); rintro e w30 ⟨v292, rfl, ho0, hb⟩; have n0_ := Aside0.mk (Kd.R_elder' (by (with_reducible repeat (first | apply Kd.R_alloc | apply Kd.R_drewN | apply Kd.R_drew)); exact HO_3.out) (Kd.R_base ho0) hb); have n1_ := Aside0.mk (Kd.R_below (by (with_reducible repeat (first | apply Kd.R_alloc | apply Kd.R_drewN | apply Kd.R_drew)); exact HO_5.out) hb); have n2_ := Aside0.mk (Kd.R_below (by (with_reducible repeat (first | apply Kd.R_alloc | apply Kd.R_drewN | apply Kd.R_drew)); exact HO290.out) hb); have n3_ := Aside0.mk (Kd.R_lower (Kd.R_new' ho0 (Kd.R_lt (by (with_reducible repeat (first | apply Kd.R_alloc | apply Kd.R_drewN | apply Kd.R_drew)); exact HO_3.out))) (below_size (by repeat (first | (with_reducible first | exact HB.out | apply below_alloc | apply pw_below_drewN | apply below_drew1) | exact HB.out)))); have n4_ := Aside0.mk (below_step (by repeat (first | (with_reducible first | exact HB.out | apply below_alloc | apply pw_below_drewN | apply below_drew1) | exact HB.out)) hb); clear HO_3; clear HO_5; clear HO290; clear HB; have HO_3 := n0_; have HO_5 := n1_; have HO290 := n2_; have HO293 := n3_; have HB := n4_; clear n0_ n1_ n2_ n3_ n4_; (try clear hb); (try clear hb2); (try clear hk); (try clear hi); (try clear ho0); obtain ⟨Ao31, co31, eo31⟩ := Kd.R_slice HO293.out; subst eo31) | (go_at_call 42; (with_reducible refine (laws_sameInts.calls k2 _ _ t291 _ _ t272 t294 _ ?side1 ?side2 ?side3 ?side4 A27.out).mono ?_); (case side1 => repeat (first | exact (Kd.R_reads' HO293.out).2.2 | (with_reducible refine Kd.C_alloc ?_ _) | (with_reducible refine Kd.C_drewN ?_ _) | (with_reducible refine Kd.C_drew ?_))); (case side2 => exact (Kd.R_reads' HO293.out).2.1); (case side3 => repeat (first | exact (Kd.R_reads' HO_3.out).2.2 | (with_reducible refine Kd.C_alloc ?_ _) | (with_reducible refine Kd.C_drewN ?_ _) | (with_reducible refine Kd.C_drew ?_))); (case side4 => exact (Kd.R_reads' HO_3.out).2.1); rintro e w' ⟨rfl, ⟨nd, rfl⟩⟩; (try first | exact ⟨rfl, _, World.drewN_drewN _ _ _⟩ | exact ⟨rfl, _, Eq.trans (World.drewN_drewN _ _ _) (congrArg (World.drewN _) (Nat.add_assoc _ _ _))⟩))); try go_wp2_with (first | (go_at_call 22; (with_reducible refine (impl_EncodeBins.calls _ _ t276 t288 _ ?side1 ?side2 A25.out).mono ?_); (case side1 => repeat (first | exact (Kd.R_reads' HO_5.out).2.2 | (with_reducible refine Kd.C_alloc ?_ _) | (with_reducible refine Kd.C_drewN ?_ _) | (with_reducible refine Kd.C_drew ?_))); (case side2 => exact (Kd.R_reads' HO_5.out).2.1); rintro e w28 ⟨v289, rfl, ho0, hb⟩; have n0_ := Aside0.mk (Kd.R_below (by (with_reducible repeat (first | apply Kd.R_alloc | apply Kd.R_drewN | apply Kd.R_drew)); exact HO_3.out) hb); have n1_ := Aside0.mk (Kd.R_below (by (with_reducible repeat (first | apply Kd.R_alloc | apply Kd.R_drewN | apply Kd.R_drew)); exact HO_5.out) hb); have n2_ := Aside0.mk (Kd.R_lower ho0 (below_size (by repeat (first | (with_reducible first | exact HB.out | apply below_alloc | apply pw_below_drewN | apply below_drew1) | exact HB.out)))); have n3_ := Aside0.mk (below_step (by repeat (first | (with_reducible first | exact HB.out | apply below_alloc | apply pw_below_drewN | apply below_drew1) | exact HB.out)) hb); clear HO_3; clear HO_5; clear HB; have HO_3 := n0_; have HO_5 := n1_; have HO290 := n2_; have HB := n3_; clear n0_ n1_ n2_ n3_; (try clear hb); (try clear hb2); (try clear hk); (try clear hi); (try clear ho0); obtain ⟨Ao29, co29, eo29⟩ := Kd.R_slice HO290.out; subst eo29) | (go_at_call 37; (with_reducible refine (impl_ReadNums.calls _ _ t288 (t272.length : Int) t273 t291 _ ?side1 ?side2 A26.out).mono ?_); (case side1 => repeat (first | exact (Kd.R_reads' HO290.out).2.2 | (with_reducible refine Kd.C_alloc ?_ _) | (with_reducible refine Kd.C_drewN ?_ _) | (with_reducible refine Kd.C_drew ?_))); (case side2 => exact (Kd.R_reads' HO290.out).2.1); rintro e w30 ⟨v292, rfl, ho0, hb⟩; have n0_ := Aside0.mk (Kd.R_elder' (by (with_reducible repeat (first | apply Kd.R_alloc | apply Kd.R_drewN | apply Kd.R_drew)); exact HO_3.out) (Kd.R_base ho0) hb); have n1_ := Aside0.mk (Kd.R_below (by (with_reducible repeat (first | apply Kd.R_alloc | apply Kd.R_drewN | apply Kd.R_drew)); exact HO_5.out) hb); have n2_ := Aside0.mk (Kd.R_below (by (with_reducible repeat (first | apply Kd.R_alloc | apply Kd.R_drewN | apply Kd.R_drew)); exact HO290.out) hb); have n3_ := Aside0.mk (Kd.R_lower (Kd.R_new' ho0 (Kd.R_lt (by (with_reducible repeat (first | apply Kd.R_alloc | apply Kd.R_drewN | apply Kd.R_drew)); exact HO_3.out))) (below_size (by repeat (first | (with_reducible first | exact HB.out | apply below_alloc | apply pw_below_drewN | apply below_drew1) | exact HB.out)))); have n4_ := Aside0.mk (below_step (by repeat (first | (with_reducible first | exact HB.out | apply below_alloc | apply pw_below_drewN | apply below_drew1) | exact HB.out)) hb); clear HO_3; clear HO_5; clear HO290; clear HB; have HO_3 := n0_; have HO_5 := n1_; have HO290 := n2_; have HO293 := n3_; have HB := n4_; clear n0_ n1_ n2_ n3_ n4_; (try clear hb); (try clear hb2); (try clear hk); (try clear hi); (try clear ho0); obtain ⟨Ao31, co31, eo31⟩ := Kd.R_slice HO293.out; subst eo31) | (go_at_call 42; (with_reducible refine (laws_sameInts.calls k2 _ _ t291 _ _ t272 t294 _ ?side1 ?side2 ?side3 ?side4 A27.out).mono ?_); (case side1 => repeat (first | exact (Kd.R_reads' HO293.out).2.2 | (with_reducible refine Kd.C_alloc ?_ _) | (with_reducible refine Kd.C_drewN ?_ _) | (with_reducible refine Kd.C_drew ?_))); (case side2 => exact (Kd.R_reads' HO293.out).2.1); (case side3 => repeat (first | exact (Kd.R_reads' HO_3.out).2.2 | (with_reducible refine Kd.C_alloc ?_ _) | (with_reducible refine Kd.C_drewN ?_ _) | (with_reducible refine Kd.C_drew ?_))); (case side4 => exact (Kd.R_reads' HO_3.out).2.1); rintro e w' ⟨rfl, ⟨nd, rfl⟩⟩; (try first | exact ⟨rfl, _, World.drewN_drewN _ _ _⟩ | exact ⟨rfl, _, Eq.trans (World.drewN_drewN _ _ _) (congrArg (World.drewN _) (Nat.add_assoc _ _ _))⟩))))
                      go_ret
                      exact ⟨by first | rfl | (simp [errW_none, errW_some] <;> rfl) | (simp [*, errW_none, errW_some] <;> rfl), by repeat (first | (with_reducible first | exact HB.out | apply below_alloc | apply pw_below_drewN | apply below_drew1) | exact HB.out)⟩
                    · rw [if_neg c24] at H
                      have c24b0 : (x8_2 == (t276.length : Int)) = false := beq_eq_false_iff_ne.mpr c24
                      have c24b1 : (x8_2 != (t276.length : Int)) = true := bne_iff_ne.mpr c24
                      obtain rfl := Option.some.inj H
                      go_wp2
                      repeat (go_quiet (fail); try go_wp2)
                      go_ret
                      exact ⟨by first | rfl | (simp [errW_none, errW_some] <;> rfl) | (simp [*, errW_none, errW_some] <;> rfl), by repeat (first | (with_reducible first | exact HB.out | apply below_alloc | apply pw_below_drewN | apply below_drew1) | exact HB.out)⟩
    · rw [if_neg c7] at H
      have c7b0 : ((t276.length : Int) == (t279.length : Int)) = false := beq_eq_false_iff_ne.mpr c7
      have c7b1 : ((t276.length : Int) != (t279.length : Int)) = true := bne_iff_ne.mpr c7
      have c7b2 : (t276.length == t279.length) = false := by first | simpa using c7 | (simp at c7 ⊢; omega)
      obtain rfl := Option.some.inj H
      go_enter Try.func10, Try.ntmps10
      go_wp2_with (first | (go_at_call 20; (with_reducible refine (laws_big.calls _ _ l0 false _ ?side1 ?side2 A2.out).mono ?_); (case side1 => repeat (first | exact HR0.out | (with_reducible refine Kd.C_alloc ?_ _) | (with_reducible refine Kd.C_drewN ?_ _) | (with_reducible refine Kd.C_drew ?_))); (case side2 => exact HC0.out); rintro e w' ⟨rfl, ⟨nd, rfl⟩⟩; (try first | exact ⟨rfl, _, World.drewN_drewN _ _ _⟩ | exact ⟨rfl, _, Eq.trans (World.drewN_drewN _ _ _) (congrArg (World.drewN _) (Nat.add_assoc _ _ _))⟩)) | (go_at_call 43; (with_reducible refine (spec_DrawListBins.calls k _ _ l0 t272 t273 _ ?side1 ?side2 A4.out).mono ?_); (case side1 => repeat (first | exact HR0.out | (with_reducible refine Kd.C_alloc ?_ _) | (with_reducible refine Kd.C_drewN ?_ _) | (with_reducible refine Kd.C_drew ?_))); (case side2 => exact HC0.out); rintro e w32 ⟨v274, rfl, ho0, hb⟩; have n0_ := Aside0.mk (Kd.R_lower ho0 (below_size (by repeat (first | (with_reducible first | exact HB.out | apply below_alloc | apply pw_below_drewN | apply below_drew1) | exact HB.out)))); have n1_ := Aside0.mk (below_step (by repeat (first | (with_reducible first | exact HB.out | apply below_alloc | apply pw_below_drewN | apply below_drew1) | exact HB.out)) hb); clear HB; have HO275 := n0_; have HB := n1_; clear n0_ n1_; (try clear hb); (try clear hb2); (try clear hk); (try clear hi); (try clear ho0); obtain ⟨Ao33, co33, eo33⟩ := Kd.R_slice HO275.out; subst eo33) | (go_at_call 35; (with_reducible refine (impl_ListBins.calls k _ _ t272 t273 t276 _ ?side1 ?side2 A5.out).mono ?_); (case side1 => repeat (first | exact (Kd.R_reads' HO275.out).2.2 | (with_reducible refine Kd.C_alloc ?_ _) | (with_reducible refine Kd.C_drewN ?_ _) | (with_reducible refine Kd.C_drew ?_))); (case side2 => exact (Kd.R_reads' HO275.out).2.1); rintro e w34 ⟨v277, rfl, ho0, hb⟩; have n0_ := Aside0.mk (Kd.R_below (by (with_reducible repeat (first | apply Kd.R_alloc | apply Kd.R_drewN | apply Kd.R_drew)); exact HO275.out) hb); have n1_ := Aside0.mk (Kd.R_lower ho0 (below_size (by repeat (first | (with_reducible first | exact HB.out | apply below_alloc | apply pw_below_drewN | apply below_drew1) | exact HB.out)))); have n2_ := Aside0.mk (below_step (by repeat (first | (with_reducible first | exact HB.out | apply below_alloc | apply pw_below_drewN | apply below_drew1) | exact HB.out)) hb); clear HO275; clear HB; have HO275 := n0_; have HO278 := n1_; have HB := n2_; clear n0_ n1_ n2_; (try clear hb); (try clear hb2); (try clear hk); (try clear hi); (try clear ho0)) | (go_at_call 34; (with_reducible refine (spec_ListBins.calls k _ _ t272 t273 t279 _ ?side1 ?side2 A6.out).mono ?_); (case side1 => repeat (first | exact (Kd.R_reads' HO275.out).2.2 | (with_reducible refine Kd.C_alloc ?_ _) | (with_reducible refine Kd.C_drewN ?_ _) | (with_reducible refine Kd.C_drew ?_))); (case side2 => exact (Kd.R_reads' HO275.out).2.1); rintro e w35 ⟨v280, rfl, ho0, hb⟩; have n0_ := Aside0.mk (Kd.R_below (by (with_reducible repeat (first | apply Kd.R_alloc | apply Kd.R_drewN | apply Kd.R_drew)); exact HO275.out) hb); have n1_ := Aside0.mk (Kd.R_elder' (by (with_reducible repeat (first | apply Kd.R_alloc | apply Kd.R_drewN | apply Kd.R_drew)); exact HO278.out) (Kd.R_base ho0) hb); have n2_ := Aside0.mk (Kd.R_lower (Kd.R_new' ho0 (Kd.R_lt (by (with_reducible repeat (first | apply Kd.R_alloc | apply Kd.R_drewN | apply Kd.R_drew)); exact HO278.out))) (below_size (by repeat (first | (with_reducible first | exact HB.out | apply below_alloc | apply pw_below_drewN | apply below_drew1) | exact HB.out)))); have n3_ := Aside0.mk (below_step (by repeat (first | (with_reducible first | exact HB.out | apply below_alloc | apply pw_below_drewN | apply below_drew1) | exact HB.out)) hb); clear HO275; clear HO278; clear HB; have HO275 := n0_; have HO278 := n1_; have HO281 := n2_; have HB := n3_; clear n0_ n1_ n2_ n3_; (try clear hb); (try clear hb2); (try clear hk); (try clear hi); (try clear ho0); obtain ⟨Ao36, co36, eo36⟩ := Kd.R_slice HO278.out; subst eo36; obtain ⟨Ao37, co37, eo37⟩ := Kd.R_slice HO281.out; subst eo37))
      repeat (go_quiet (first | (go_at_call 20; (with_reducible refine (laws_big.calls _ _ l0 false _ ?side1 ?side2 A2.out).mono ?_); (case side1 => repeat (first | exact HR0.out | (with_reducible refine Kd.C_alloc ?_ _) | (with_reducible refine Kd.C_drewN ?_ _) | (with_reducible refine Kd.C_drew ?_))); (case side2 => exact HC0.out); rintro e w' ⟨rfl, ⟨nd, rfl⟩⟩; (try first | exact ⟨rfl, _, World.drewN_drewN _ _ _⟩ | exact ⟨rfl, _, Eq.trans (World.drewN_drewN _ _ _) (congrArg (World.drewN _) (Nat.add_assoc _ _ _))⟩)) | (go_at_call 43; (with_reducible refine (spec_DrawListBins.calls k _ _ l0 t272 t273 _ ?side1 ?side2 A4.out).mono ?_); (case side1 => repeat (first | exact HR0.out | (with_reducible refine Kd.C_alloc ?_ _) | (with_reducible refine Kd.C_drewN ?_ _) | (with_reducible refine Kd.C_drew ?_))); (case side2 => exact HC0.out); rintro e w32 ⟨v274, rfl, ho0, hb⟩; have n0_ := Aside0.mk (Kd.R_lower ho0 (below_size (by repeat (first | (with_reducible first | exact HB.out | apply below_alloc | apply pw_below_drewN | apply below_drew1) | exact HB.out)))); have n1_ := Aside0.mk (below_step (by repeat (first | (with_reducible first | exact HB.out | apply below_alloc | apply pw_below_drewN | apply below_drew1) | exact HB.out)) hb); clear HB; have HO275 := n0_; have HB := n1_; clear n0_ n1_; (try clear hb); (try clear hb2); (try clear hk); (try clear hi); (try clear ho0); obtain ⟨Ao33, co33, eo33⟩ := Kd.R_slice HO275.out; subst eo33) | (go_at_call 35; (with_reducible refine (impl_ListBins.calls k _ _ t272 t273 t276 _ ?side1 ?side2 A5.out).mono ?_); (case side1 => repeat (first | exact (Kd.R_reads' HO275.out).2.2 | (with_reducible refine Kd.C_alloc ?_ _) | (with_reducible refine Kd.C_drewN ?_ _) | (with_reducible refine Kd.C_drew ?_))); (case side2 => exact (Kd.R_reads' HO275.out).2.1); rintro e w34 ⟨v277, rfl, ho0, hb⟩; have n0_ := Aside0.mk (Kd.R_below (by (with_reducible repeat (first | apply Kd.R_alloc | apply Kd.R_drewN | apply Kd.R_drew)); exact HO275.out) hb); have n1_ := Aside0.mk (Kd.R_lower ho0 (below_size (by repeat (first | (with_reducible first | exact HB.out | apply below_alloc | apply pw_below_drewN | apply below_drew1) | exact HB.out)))); have n2_ := Aside0.mk (below_step (by repeat (first | (with_reducible first | exact HB.out | apply below_alloc | apply pw_below_drewN | apply below_drew1) | exact HB.out)) hb); clear HO275; clear HB; have HO275 := n0_; have HO278 := n1_; have HB := n2_; clear n0_ n1_ n2_; (try clear hb); (try clear hb2); (try clear hk); (try clear hi); (try clear ho0)) | (go_at_call 34; (with_reducible refine (spec_ListBins.calls k _ _ t272 t273 t279 _ ?side1 ?side2 A6.out).mono ?_); (case side1 => repeat (first | exact (Kd.R_reads' HO275.out).2.2 | (with_reducible refine Kd.C_alloc ?_ _) | (with_reducible refine Kd.C_drewN ?_ _) | (with_reducible refine Kd.C_drew ?_))); (case side2 => exact (Kd.R_reads' HO275.out).2.1); rintro e w35 ⟨v280, rfl, ho0, hb⟩; have n0_ := Aside0.mk (Kd.R_below (by (with_reducible repeat (first | apply Kd.R_alloc | apply Kd.R_drewN | apply Kd.R_drew)); exact HO275.out) hb); have n1_ := Aside0.mk (Kd.R_elder' (by (with_reducible repeat (first | apply Kd.R_alloc | apply Kd.R_drewN | apply Kd.R_drew)); exact HO278.out) (Kd.R_base ho0) hb); have n2_ := Aside0.mk (Kd.R_lower (Kd.R_new' ho0 (Kd.R_lt (by (with_reducible repeat (first | apply Kd.R_alloc | apply Kd.R_drewN | apply Kd.R_drew)); exact HO278.out))) (below_size (by repeat (first | (with_reducible first | exact HB.out | apply below_alloc | apply pw_below_drewN | apply below_drew1) | exact HB.out)))); have n3_ := Aside0.mk (below_step (by repeat (first | (with_reducible first | exact HB.out | apply below_alloc | apply pw_below_drewN | apply below_drew1) | exact HB.out)) hb); clear HO275; clear HO278; clear HB; have HO275 := n0_; have HO278 := n1_; have HO281 := n2_; have HB := n3_; clear n0_ n1_ n2_ n3_; (try clear hb); (try clear hb2); (try clear hk); (try clear hi); (try clear ho0); obtain ⟨Ao36, co36, eo36⟩ := Kd.R_slice HO278.out; subst eo36; obtain ⟨Ao37, co37, eo37⟩ := Kd.R_slice HO281.out; subst eo37)); try go_wp2_with (first | (go_at_call 20; (with_reducible refine (laws_big.calls _ _ l0 false _ ?side1 ?side2 A2.out).mono ?_); (case side1 => repeat (first | exact HR0.out | (with_reducible refine Kd.C_alloc ?_ _) | (with_reducible refine Kd.C_drewN ?_ _) | (with_reducible refine Kd.C_drew ?_))); (case side2 => exact HC0.out); rintro e w' ⟨rfl, ⟨nd, rfl⟩⟩; (try first | exact ⟨rfl, _, World.drewN_drewN _ _ _⟩ | exact ⟨rfl, _, Eq.trans (World.drewN_drewN _ _ _) (congrArg (World.drewN _) (Nat.add_assoc _ _ _))⟩)) | (go_at_call 43; (with_reducible refine (spec_DrawListBins.calls k _ _ l0 t272 t273 _ ?side1 ?side2 A4.out).mono ?_); (case side1 => repeat (first | exact HR0.out | (with_reducible refine Kd.C_alloc ?_ _) | (with_reducible refine Kd.C_drewN ?_ _) | (with_reducible refine Kd.C_drew ?_))); (case side2 => exact HC0.out); rintro e w32 ⟨v274, rfl, ho0, hb⟩; have n0_ := Aside0.mk (Kd.R_lower ho0 (below_size (by repeat (first | (with_reducible first | exact HB.out | apply below_alloc | apply pw_below_drewN | apply below_drew1) | exact HB.out)))); have n1_ := Aside0.mk (below_step (by repeat (first | (with_reducible first | exact HB.out | apply below_alloc | apply pw_below_drewN | apply below_drew1) | exact HB.out)) hb); clear HB; have HO275 := n0_; have HB := n1_; clear n0_ n1_; (try clear hb); (try clear hb2); (try clear hk); (try clear hi); (try clear ho0); obtain ⟨Ao33, co33, eo33⟩ := Kd.R_slice HO275.out; subst eo33) | (go_at_call 35; (with_reducible refine (impl_ListBins.calls k _ _ t272 t273 t276 _ ?side1 ?side2 A5.out).mono ?_); (case side1 => repeat (first | exact (Kd.R_reads' HO275.out).2.2 | (with_reducible refine Kd.C_alloc ?_ _) | (with_reducible refine Kd.C_drewN ?_ _) | (with_reducible refine Kd.C_drew ?_))); (case side2 => exact (Kd.R_reads' HO275.out).2.1); rintro e w34 ⟨v277, rfl, ho0, hb⟩; have n0_ := Aside0.mk (Kd.R_below (by (with_reducible repeat (first | apply Kd.R_alloc | apply Kd.R_drewN | apply Kd.R_drew)); exact HO275.out) hb); have n1_ := Aside0.mk (Kd.R_lower ho0 (below_size (by repeat (first | (with_reducible first | exact HB.out | apply below_alloc | apply pw_below_drewN | apply below_drew1) | exact HB.out)))); have n2_ := Aside0.mk (below_step (by repeat (first | (with_reducible first | exact HB.out | apply below_alloc | apply pw_below_drewN | apply below_drew1) | exact HB.out)) hb); clear HO275; clear HB; have HO275 := n0_; have HO278 := n1_; have HB := n2_; clear n0_ n1_ n2_; (try clear hb); (try clear hb2); (try clear hk); (try clear hi); (try clear ho0)) | (go_at_call 34; (with_reducible refine (spec_ListBins.calls k _ _ t272 t273 t279 _ ?side1 ?side2 A6.out).mono ?_); (case side1 => repeat (first | exact (Kd.R_reads' HO275.out).2.2 | (with_reducible refine Kd.C_alloc ?_ _) | (with_reducible refine Kd.C_drewN ?_ _) | (with_reducible refine Kd.C_drew ?_))); (case side2 => exact (Kd.R_reads' HO275.out).2.1); rintro e w35 ⟨v280, rfl, ho0, hb⟩; have n0_ := Aside0.mk (Kd.R_below (by (with_reducible repeat (first | apply Kd.R_alloc | apply Kd.R_drewN | apply Kd.R_drew)); exact HO275.out) hb); have n1_ := Aside0.mk (Kd.R_elder' (by (with_reducible repeat (first | apply Kd.R_alloc | apply Kd.R_drewN | apply Kd.R_drew)); exact HO278.out) (Kd.R_base ho0) hb); have n2_ := Aside0.mk (Kd.R_lower (Kd.R_new' ho0 (Kd.R_lt (by (with_reducible repeat (first | apply Kd.R_alloc | apply Kd.R_drewN | apply Kd.R_drew)); exact HO278.out))) (below_size (by repeat (first | (with_reducible first | exact HB.out | apply below_alloc | apply pw_below_drewN | apply below_drew1) | exact HB.out)))); have n3_ := Aside0.mk (below_step (by repeat (first | (with_reducible first | exact HB.out | apply below_alloc | apply pw_below_drewN | apply below_drew1) | exact HB.out)) hb); clear HO275; clear HO278; clear HB; have HO275 := n0_; have HO278 := n1_; have HO281 := n2_; have HB := n3_; clear n0_ n1_ n2_ n3_; (try clear hb); (try clear hb2); (try clear hk); (try clear hi); (try clear ho0); obtain ⟨Ao36, co36, eo36⟩ := Kd.R_slice HO278.out; subst eo36; obtain ⟨Ao37, co37, eo37⟩ := Kd.R_slice HO281.out; subst eo37)))
      go_ret
      exact ⟨by first | rfl | (simp [errW_none, errW_some] <;> rfl) | (simp [*, errW_none, errW_some] <;> rfl), by repeat (first | (with_reducible first | exact HB.out | apply below_alloc | apply pw_below_drewN | apply below_drew1) | exact HB.out)⟩


/-- The one pure statement of laws_FnNumsCoded. -/
def laws_FnNumsCoded.Pure : Prop := ∀ (l0 : List Int), (l0.length ≤ maxLen ∧ ∀ y_6 ∈ l0, (Lit.int .u8 y_6).wf = true) → ∃ k, laws_FnNumsCoded.f k l0 = some true
theorem laws_FnNumsCoded.walk (P : laws_FnNumsCoded.Pure) (A0 : Option Addr) (c0 : Nat) (l0 : List Int) (w : World) (hr0 : Kd.C (Kd.int .u8) w A0 l0.length l0) (hc0 : l0.length ≤ c0) (ql0 : (l0.length ≤ maxLen ∧ ∀ y_6 ∈ l0, (Lit.int .u8 y_6).wf = true)) :
    Calls Try.prog 10 #[.slice A0 l0.length c0] w fun e w' => e = .returned (.bool true) ∧ Below w.heap.size w w' := by
  obtain ⟨k, h⟩ := P l0 ql0
  refine (laws_FnNumsCoded.calls k A0 c0 l0 true w hr0 hc0 h).mono ?_
  rintro e w' ⟨rfl, hd⟩
  exact ⟨rfl, hd⟩

theorem bitsD_append (b : List Int) : ∀ (l1 l2 : List Int) (s : Dec), bitsD b s (l1 ++ l2) = bitsD b s l1 ++ bitsD b (l1.foldl (stepD b) s) l2
  | [], l2, s => rfl
  | x :: l1, l2, s => by
    show bitD s x :: bitsD b (stepD b s x) (l1 ++ l2) = _
    rw [bitsD_append b l1]
    rfl
def onesC (ctx : Int) : Nat → List Int
  | 0 => []
  | m + 1 => ctx :: onesC (ctx + 1) m
theorem onesC_snoc : ∀ (m : Nat) (ctx : Int), onesC ctx (m + 1) = onesC ctx m ++ [ctx + m]
  | 0, ctx => by simp [onesC]
  | m + 1, ctx => by
    show ctx :: onesC (ctx + 1) (m + 1) = ctx :: (onesC (ctx + 1) m ++ _)
    rw [onesC_snoc m, show ctx + 1 + (m : Int) = ctx + ((m + 1 : Nat) : Int) from by omega]
theorem onesL_pair (ctx : Int) : ∀ m : Nat, ((onesL ctx m).map pairB).map Prod.fst = onesC ctx m ∧ ((onesL ctx m).map pairB).map Prod.snd = List.replicate m 1
  | 0 => ⟨rfl, rfl⟩
  | m + 1 => by
    have ih := onesL_pair ctx m
    rw [onesL_succ, List.map_append, List.map_append, List.map_append, ih.1, ih.2, onesC_snoc, List.replicate_succ']
    exact ⟨rfl, rfl⟩
theorem clsD_bins (b : List Int) (base : Int) : ∀ (m d : Nat) (s : Dec), m ≤ d → d ≤ 14 → bitsD b s (onesC (base + 1 + ((15 - d : Nat) : Int)) m) = List.replicate m 1 →
    (m < d → bitD ((onesC (base + 1 + ((15 - d : Nat) : Int)) m).foldl (stepD b) s) (base + 1 + ((15 - d + m : Nat) : Int)) = 0) →
    clsD b base d s = (15 - d + m, ((onesC (base + 1 + ((15 - d : Nat) : Int)) m) ++ (if m < d then [base + 1 + ((15 - d + m : Nat) : Int)] else [])).foldl (stepD b) s)
  | 0, 0, s, _, _, _, _ => rfl
  | 0, d + 1, s, _, hd, _, h0 => by
    have h := h0 (by omega)
    simp only [onesC, List.foldl_nil] at h
    rw [if_pos (by omega)]
    rw [show 15 - (d + 1) + 0 = 14 - d from by omega] at h ⊢
    unfold clsD
    rw [if_neg (by rw [h]; decide)]
    rfl
  | m + 1, 0, s, h, _, _, _ => by omega
  | m + 1, d + 1, s, hm, hd, h1, h0 => by
    have e1 : (15 - (d + 1) : Nat) = 14 - d := by omega
    have e2 : base + 1 + ((14 - d : Nat) : Int) + 1 = base + 1 + ((15 - d : Nat) : Int) := by omega
    have e3 : 15 - (d + 1) + (m + 1) = 15 - d + m := by omega
    rw [e1] at h1
    rw [e3, e1] at h0
    rw [e3, e1]
    have h1' : bitD s (base + 1 + ((14 - d : Nat) : Int)) :: bitsD b (stepD b s (base + 1 + ((14 - d : Nat) : Int))) (onesC (base + 1 + ((14 - d : Nat) : Int) + 1) m) = 1 :: List.replicate m 1 := h1
    rw [e2] at h1'
    injection h1' with ha hb
    have h0' : m + 1 < d + 1 → bitD ((onesC (base + 1 + ((14 - d : Nat) : Int) + 1) m).foldl (stepD b) (stepD b s (base + 1 + ((14 - d : Nat) : Int)))) (base + 1 + ((15 - d + m : Nat) : Int)) = 0 := h0
    rw [e2] at h0'
    have ih := clsD_bins b base m d (stepD b s (base + 1 + ((14 - d : Nat) : Int))) (by omega) (by omega) hb (fun h => h0' (by omega))
    unfold clsD
    rw [if_pos ha, ih]
    refine Prod.ext rfl ?_
    show _ = ((base + 1 + ((14 - d : Nat) : Int)) :: onesC (base + 1 + ((14 - d : Nat) : Int) + 1) m ++ _).foldl (stepD b) s
    rw [e2]
    by_cases hlt : m < d
    · rw [if_pos hlt, if_pos (by omega)]
      rfl
    · rw [if_neg hlt, if_neg (by omega)]
      rfl
theorem bitAt_nat (x i : Nat) (hx : x ≤ 32767) (hi : i ≤ 14) : bitAt (x : Int) (i : Int) = ((x / 2 ^ i % 2 : Nat) : Int) := by
  unfold bitAt shr
  rw [Int.toNat_natCast, Nat.min_eq_left (by show i ≤ 64; omega)]
  have e : (x : Int) / 2 ^ i = ((x / 2 ^ i : Nat) : Int) := by
    rw [Int.natCast_ediv, Int.natCast_pow]
    rfl
  rw [e]
  have h := bits_mask .i64 62 (by decide) (fun n a b => by rw [IntKind.wrap_i64]; omega) 1 (by decide) ((x / 2 ^ i : Nat) : Int) (Int.natCast_nonneg _) (Int.lt_of_le_of_lt (Int.ofNat_le.2 (Nat.div_le_self x (2 ^ i))) (by omega))
  refine Eq.trans h ?_
  rw [Int.natCast_emod]
  rfl
theorem downL_pair (ctx x : Int) : ∀ m : Nat, ((downL ctx x m).map pairB).map Prod.fst = List.replicate m ctx ∧ ((downL ctx x m).map pairB).map Prod.snd = (downL ctx x m).map (·.f1)
  | 0 => ⟨rfl, rfl⟩
  | m + 1 => by
    have ih := downL_pair ctx x m
    exact ⟨congrArg (ctx :: ·) ih.1, congrArg (bitAt x m :: ·) ih.2⟩
theorem magD_bins (b : List Int) (ctx : Int) (x : Nat) (hx : x ≤ 32767) : ∀ (m : Nat) (s : Dec), m ≤ 14 → bitsD b s (List.replicate m ctx) = (downL ctx (x : Int) m).map (·.f1) →
    magD b ctx m ((x / 2 ^ m : Nat) : Int) s = ((x : Int), (List.replicate m ctx).foldl (stepD b) s)
  | 0, s, _, _ => by
    rw [Nat.pow_zero, Nat.div_one]
    rfl
  | m + 1, s, hm, h => by
    have h' : bitD s ctx :: bitsD b (stepD b s ctx) (List.replicate m ctx) = bitAt (x : Int) (m : Int) :: (downL ctx (x : Int) m).map (·.f1) := h
    injection h' with ha hb
    rw [bitAt_nat x m hx (by omega)] at ha
    have ih := magD_bins b ctx x hx m (stepD b s ctx) (by omega) hb
    have e : 2 * ((x / 2 ^ (m + 1) : Nat) : Int) + bitD s ctx = ((x / 2 ^ m : Nat) : Int) := by
      rw [ha, Nat.pow_succ, ← Nat.div_div_eq_div_mul]
      omega
    unfold magD
    rw [e, ih]
    rfl
theorem bitN_top : ∀ (f x : Nat), 1 ≤ x → x < 2 ^ f → x / 2 ^ (bitN f x - 1) = 1
  | 0, x, h1, h2 => by rw [Nat.pow_zero] at h2; omega
  | f + 1, x, h1, h2 => by
    unfold bitN
    rw [if_neg (by omega)]
    by_cases hx : x = 1
    · subst hx
      have : bitN f (1 / 2) = 0 := by cases f <;> simp [bitN]
      rw [this]
    · have ih := bitN_top f (x / 2) (by omega) (by rw [Nat.pow_succ] at h2; omega)
      have hp : 1 ≤ bitN f (x / 2) := by
        cases f with
        | zero => rw [Nat.zero_add, Nat.pow_one] at h2; omega
        | succ f => unfold bitN; rw [if_neg (by omega)]; omega
      rw [show 1 + bitN f (x / 2) - 1 = (bitN f (x / 2) - 1) + 1 from by omega, Nat.pow_succ, Nat.mul_comm, ← Nat.div_div_eq_div_mul]
      exact ih
theorem clsN_top {n : Int} (h : n ≠ 0) (h0 : -32767 ≤ n) (h1 : n ≤ 32767) : n.natAbs / 2 ^ (clsN n - 1) = 1 := by
  unfold clsN
  exact bitN_top 64 _ (by omega) (by have : n.natAbs ≤ 32767 := by omega
                                     omega)
def ctxsN (n base : Int) : List Int := ((binsN n base).map pairB).map Prod.fst
def bitsN (n base : Int) : List Int := ((binsN n base).map pairB).map Prod.snd
theorem bitsD_length' (b : List Int) (l : List Int) (s : Dec) : (bitsD b s l).length = l.length := bitsD_length b l s
theorem numD_bins (b : List Int) (base n : Int) (hn : coefB n = true) (s : Dec) (h : bitsD b s (ctxsN n base) = bitsN n base) : numD b base s = (n, (ctxsN n base).foldl (stepD b) s) := by
  have hr := inR_iff.1 hn
  by_cases hz : n = 0
  · subst hz
    have h' : [bitD s base] = [1] := by simpa [ctxsN, bitsN, binsN, pairB, bitsD] using h
    have h1 : bitD s base = 1 := by injection h'
    unfold numD
    rw [if_pos h1]
    simp [ctxsN, binsN, pairB]
  · have hc1 := clsN_pos hz
    have hc2 := clsN_le hr.1 hr.2
    have ht := clsN_top hz hr.1 hr.2
    obtain ⟨c, hc⟩ : ∃ c, c = clsN n := ⟨_, rfl⟩
    obtain ⟨sg, hsg⟩ : ∃ sg : Int, sg = if n < 0 then 1 else 0 := ⟨_, rfl⟩
    rw [← hc] at hc1 hc2 ht
    have o := onesL_pair (base + 2) (c - 1)
    have w := downL_pair (base + 18) (n.natAbs : Nat) (c - 1)
    have eC : ctxsN n base = base :: (base + 1) :: (onesC (base + 2) (c - 1) ++ ((if c < 15 then [base + 1 + (c : Int)] else []) ++ List.replicate (c - 1) (base + 18))) := by
      unfold ctxsN binsN
      rw [if_neg hz, ← hc]
      simp only [List.map_append, o.1, w.1, List.append_assoc]
      by_cases hq : c < 15
      · simp [pairB, hq]
      · simp [pairB, hq]
    have eB : bitsN n base = 0 :: sg :: (List.replicate (c - 1) 1 ++ ((if c < 15 then [0] else []) ++ (downL (base + 18) (n.natAbs : Nat) (c - 1)).map (·.f1))) := by
      unfold bitsN binsN
      rw [if_neg hz, ← hc, ← hsg]
      simp only [List.map_append, o.2, w.2, List.append_assoc]
      by_cases hq : c < 15
      · simp [pairB, hq]
      · simp [pairB, hq]
    rw [eC, eB] at h
    have h' : bitD s base :: bitD (stepD b s base) (base + 1) :: bitsD b (stepD b (stepD b s base) (base + 1)) (onesC (base + 2) (c - 1) ++ ((if c < 15 then [base + 1 + (c : Int)] else []) ++ List.replicate (c - 1) (base + 18))) = 0 :: sg :: (List.replicate (c - 1) 1 ++ ((if c < 15 then [0] else []) ++ (downL (base + 18) (n.natAbs : Nat) (c - 1)).map (·.f1))) := h
    injection h' with hb0 h'
    injection h' with hb1 h'
    obtain ⟨s2, hs2⟩ : ∃ s2, s2 = stepD b (stepD b s base) (base + 1) := ⟨_, rfl⟩
    rw [← hs2, bitsD_append] at h'
    have hl1 : (bitsD b s2 (onesC (base + 2) (c - 1))).length = (List.replicate (c - 1) (1 : Int)).length := by
      rw [bitsD_length, ← o.1, List.length_map, List.length_map, onesL_length, List.length_replicate]
    obtain ⟨h1, h'⟩ := List.append_inj h' hl1
    rw [bitsD_append] at h'
    obtain ⟨s3, hs3⟩ : ∃ s3, s3 = (onesC (base + 2) (c - 1)).foldl (stepD b) s2 := ⟨_, rfl⟩
    rw [← hs3] at h'
    have hl2 : (bitsD b s3 (if c < 15 then [base + 1 + (c : Int)] else [])).length = (if c < 15 then [(0 : Int)] else []).length := by
      rw [bitsD_length]
      split <;> rfl
    obtain ⟨h2, h3⟩ := List.append_inj h' hl2
    have ex : base + 1 + ((15 - 14 : Nat) : Int) = base + 2 := by omega
    have hcls := clsD_bins b base (c - 1) 14 s2 (by omega) (by omega) (by rw [ex]; exact h1) (fun hlt => by
      rw [ex, ← hs3, show 15 - 14 + (c - 1) = c from by omega]
      rw [if_pos (by omega), if_pos (by omega)] at h2
      have h2' : [bitD s3 (base + 1 + (c : Int))] = [0] := h2
      injection h2')
    rw [ex, show 15 - 14 + (c - 1) = c from by omega] at hcls
    obtain ⟨s4, hs4⟩ : ∃ s4, s4 = (onesC (base + 2) (c - 1) ++ (if c < 15 then [base + 1 + (c : Int)] else [])).foldl (stepD b) s2 := ⟨_, rfl⟩
    have e4 : s4 = (if c < 15 then [base + 1 + (c : Int)] else []).foldl (stepD b) s3 := by rw [hs4, List.foldl_append, hs3]
    rw [← e4] at h3
    have ei : (if c - 1 < 14 then [base + 1 + (c : Int)] else []) = (if c < 15 then [base + 1 + (c : Int)] else []) := by
      by_cases hq : c < 15
      · rw [if_pos hq, if_pos (by omega)]
      · rw [if_neg hq, if_neg (by omega)]
    rw [ei, ← hs4] at hcls
    have hmag := magD_bins b (base + 18) n.natAbs (by omega) (c - 1) s4 (by omega) h3
    rw [ht] at hmag
    unfold numD
    rw [if_neg (by rw [hb0]; decide)]
    simp only []
    rw [← hs2, hcls]
    simp only []
    rw [show ((1 : Nat) : Int) = 1 from rfl] at hmag
    rw [hmag, hb1, eC]
    refine Prod.ext ?_ ?_
    · show (if sg = 1 then -((n.natAbs : Nat) : Int) else ((n.natAbs : Nat) : Int)) = n
      rw [hsg]
      by_cases hneg : n < 0
      · rw [if_pos hneg, if_pos rfl]; omega
      · rw [if_neg hneg, if_neg (by decide)]; omega
    · show (List.replicate (c - 1) (base + 18)).foldl (stepD b) s4 = (onesC (base + 2) (c - 1) ++ ((if c < 15 then [base + 1 + (c : Int)] else []) ++ List.replicate (c - 1) (base + 18))).foldl (stepD b) (stepD b (stepD b s base) (base + 1))
      rw [List.foldl_append, List.foldl_append, ← hs2, ← hs3, ← e4]
theorem listG_cons (x : Int) (l : List Int) (base : Int) : listG (x :: l) base = binsN x base ++ listG l base := rfl
/-- Bits that were read along a row are read along its parts. -/
theorem nums_along (b : List Int) (base : Int) : ∀ (l : List Int) (s : Dec), allR l (-32767) 32767 = true → bitsD b s (((listG l base).map pairB).map Prod.fst) = ((listG l base).map pairB).map Prod.snd →
    ∀ (k : Nat), k ≤ l.length → ∃ sk : Nat → Dec, sk 0 = s ∧ ∀ i, i < k → numD b base (sk i) = (rd l i, sk (i + 1))
  | [], s, _, _, k, hk => ⟨fun _ => s, rfl, fun i hi => by simp at hk; omega⟩
  | x :: l, s, ha, h, 0, hk => ⟨fun _ => s, rfl, fun i hi => by omega⟩
  | x :: l, s, ha, h, k + 1, hk => by
    obtain ⟨hx, hl⟩ := (allR_cons _ _ _ _).1 ha
    rw [listG_cons, List.map_append, List.map_append, List.map_append, bitsD_append] at h
    obtain ⟨h1, h2⟩ := List.append_inj h (by rw [bitsD_length]; simp)
    have hn := numD_bins b base x hx s h1
    obtain ⟨sk, e0, hsk⟩ := nums_along b base l _ hl h2 k (by simpa using hk)
    refine ⟨fun i => if i = 0 then s else sk (i - 1), rfl, fun i hi => ?_⟩
    rcases i with _ | i
    · simp only [if_true]
      rw [hn]
      refine Prod.ext rfl ?_
      show (ctxsN x base).foldl (stepD b) s = (if 0 + 1 = 0 then s else sk (0 + 1 - 1))
      rw [if_neg (by omega)]
      exact e0.symm
    · have := hsk i (by omega)
      simp only [if_neg (show ¬ i + 1 = 0 by omega), if_neg (show ¬ i + 1 + 1 = 0 by omega)]
      rw [show i + 1 - 1 = i from rfl, show i + 1 + 1 - 1 = i + 1 from rfl, this]
      refine Prod.ext ?_ rfl
      show rd l (i : Int) = rd (x :: l) ((i + 1 : Nat) : Int)
      by_cases hlt : i < l.length
      · rw [rd_nat hlt, rd_nat (show i + 1 < (x :: l).length by simpa using hlt)]
        rfl
      · simp only [List.length_cons] at hk
        omega
theorem outN_back (b : List Int) (base : Int) (l : List Int) (ha : allR l (-32767) 32767 = true) (h : bitsD b (startD b) (((listG l base).map pairB).map Prod.fst) = ((listG l base).map pairB).map Prod.snd) : outN b base l.length = l := by
  obtain ⟨sk, e0, hsk⟩ := nums_along b base l (startD b) ha h l.length (Nat.le_refl _)
  have key : ∀ k, k ≤ l.length → stN b base k = sk k ∧ outN b base k = l.take k := by
    intro k
    induction k with
    | zero => exact fun _ => ⟨e0.symm, rfl⟩
    | succ k ih =>
      intro hk
      obtain ⟨i1, i2⟩ := ih (by omega)
      have hn := hsk k (by omega)
      unfold stN outN
      rw [i1, i2, hn]
      refine ⟨rfl, ?_⟩
      rw [List.take_succ_eq_append_getElem (show k < l.length by omega), rd_nat (show k < l.length by omega)]
  rw [(key l.length (Nat.le_refl _)).2, List.take_length]
theorem bit_range (x i : Int) (x0 : Nat) (i0 : Nat) (ex : x = x0) (ei : i = i0) (hx : x0 ≤ 32767) (hi : i0 ≤ 14) : bitAt x i = 0 ∨ bitAt x i = 1 := by
  subst ex ei
  rw [bitAt_nat x0 i0 hx hi]
  omega
theorem downL_ok (ctx : Int) (x : Nat) (hx : x ≤ 32767) (h0 : 0 ≤ ctx) (h1 : ctx < 400) : ∀ m : Nat, m ≤ 14 → ∀ y ∈ downL ctx (x : Int) m, binB y = true
  | 0, _, y, hy => by simp [downL] at hy
  | m + 1, hm, y, hy => by
    have hy' : y ∈ (⟨ctx, bitAt (x : Int) (m : Int)⟩ : S31) :: downL ctx (x : Int) m := hy
    rcases List.mem_cons.1 hy' with rfl | hy'
    · have := bit_range (x : Int) (m : Int) x m rfl rfl hx (by omega)
      simp only [binB, Bool.and_eq_true, inR_iff]
      omega
    · exact downL_ok ctx x hx h0 h1 m (by omega) y hy'
theorem binsN_ok {n base : Int} (hn : coefB n = true) (h0 : 0 ≤ base) (h1 : base ≤ 380) : ∀ y ∈ binsN n base, binB y = true := by
  have hr := inR_iff.1 hn
  intro y hy
  unfold binsN at hy
  by_cases hz : n = 0
  · rw [if_pos hz] at hy
    rw [List.mem_singleton.1 hy]
    simp only [binB, Bool.and_eq_true, inR_iff]
    omega
  · rw [if_neg hz] at hy
    have hc2 := clsN_le hr.1 hr.2
    rcases List.mem_append.1 hy with hy | hy
    · rcases List.mem_append.1 hy with hy | hy
      · rcases List.mem_append.1 hy with hy | hy
        · have hy : y = ⟨base, 0⟩ ∨ y = ⟨base + 1, if n < 0 then 1 else 0⟩ := by simpa using hy
          rcases hy with rfl | rfl
          · simp only [binB, Bool.and_eq_true, inR_iff]; omega
          · simp only [binB, Bool.and_eq_true, inR_iff]
            split <;> omega
        · obtain ⟨i, hi, rfl⟩ := List.mem_map.1 hy
          have := List.mem_range.1 hi
          simp only [binB, Bool.and_eq_true, inR_iff]
          omega
      · by_cases hq : clsN n < 15
        · rw [if_pos hq] at hy
          rw [List.mem_singleton.1 hy]
          simp only [binB, Bool.and_eq_true, inR_iff]
          omega
        · rw [if_neg hq] at hy
          cases hy
    · exact downL_ok (base + 18) n.natAbs (by omega) (by omega) (by omega) (clsN n - 1) (by omega) y hy
theorem listG_ok (base : Int) (h0 : 0 ≤ base) (h1 : base ≤ 380) : ∀ l : List Int, allR l (-32767) 32767 = true → (listG l base).all binB = true
  | [], _ => rfl
  | x :: l, ha => by
    obtain ⟨hx, hl⟩ := (allR_cons _ _ _ _).1 ha
    rw [listG_cons, List.all_append, listG_ok base h0 h1 l hl, Bool.and_true]
    exact List.all_eq_true.2 (binsN_ok hx h0 h1)
theorem bytes_bool {l : List Int} (h : BytesOk l) : bytesB l = true := List.all_eq_true.2 (fun x hx => by have := h x hx; simp [this])
theorem nums_back (l : List Int) (base : Int) (hn : l.length ≤ 4096) (hb : inR base 0 380 = true) (ha : allR l (-32767) 32767 = true) :
    (bytesB (encodeI (listG l base)) = true ∧ (encodeI (listG l base)).length ≤ 1000000) ∧ readI (encodeI (listG l base)) (l.length : Int) base = l := by
  have hbr := inR_iff.1 hb
  have hall := listG_ok base hbr.1 hbr.2 l ha
  have hlen := listG_length base l ha
  have hB : binsB (listG l base) = true := by
    unfold binsB
    rw [hall, Bool.true_and]
    exact decide_eq_true (by omega)
  have hok := binsB_ok hall
  have he : encodeI (listG l base) = encL ((listG l base).map pairB) := by unfold encodeI; rw [if_pos hB]
  have hby : BytesOk (encL ((listG l base).map pairB)) := (end_val (puts_ok _ start_ok hok)).2.2
  have hd := dec_enc ((listG l base).map pairB) hok [] (fun x hx => by cases hx)
  rw [List.append_nil] at hd
  rw [he]
  refine ⟨⟨bytes_bool hby, by have := encL_length ((listG l base).map pairB); rw [List.length_map] at this; omega⟩, ?_⟩
  unfold readI
  rw [show inR (l.length : Int) 0 4096 = true from inR_iff.2 (by omega), hb]
  simp only [Bool.and_self, if_true, Int.toNat_natCast]
  exact outN_back _ base l ha hd
theorem allR_take {l : List Int} {a b : Int} (h : allR l a b = true) (i : Nat) : allR (l.take i) a b = true := List.all_eq_true.2 (fun x hx => List.all_eq_true.1 h x (List.mem_of_mem_take hx))
theorem numsCoded_l1 (l : List Int) (base : Int) (hl : l.length ≤ 4096) (hb : inR base 0 380 = true) (ha : allR l (-32767) 32767 = true) : ∀ (d i : Nat), i + d = l.length →
    Ev (fun k => laws_FnNumsCoded.l1 k l base (listG l base) ((listG (l.take i) base).length : Int) i) true := by
  intro d
  induction d with
  | zero =>
    intro i hi
    have hlen := listG_length base l ha
    have hn := nums_back l base hl hb ha
    refine Ev.step (fun k => by rw [laws_FnNumsCoded.l1]) (evNeg (by omega) (evPos (by rw [List.take_of_length_le (by omega)]) ?_))
    refine evBind (evConst (show impl_EncodeBins.f (listG l base) = some (encodeI (listG l base)) from by unfold impl_EncodeBins.f; rw [if_pos (by omega)])) ?_
    refine evBind (evConst (iRead_f _ _ _ hn.1.1 (by have := hn.1.2; omega))) ?_
    rw [hn.2]
    exact evBind (sameInts_f l (by omega)) (Ev.now _)
  | succ d ih =>
    intro i hi
    have h1 : i < l.length := by omega
    have hx : coefB l[i] = true := List.all_eq_true.1 ha _ (List.getElem_mem h1)
    have ht := listG_length base (l.take i) (allR_take ha i)
    have hbl := binsN_length (n := l[i]) (base := base) hx
    rw [List.length_take] at ht
    refine Ev.step (fun k => by rw [laws_FnNumsCoded.l1]) (evPos (by omega) (evPos (by omega) (evBind (iBinsOf_f _ _) ?_)))
    rw [rd_nat h1]
    have hbi : binsI l[i] base = binsN l[i] base := by unfold binsI; rw [if_pos ⟨hx, hb⟩]
    have e : listG (l.take (i + 1)) base = listG (l.take i) base ++ binsN l[i] base := by
      rw [List.take_succ_eq_append_getElem h1]
      unfold listG
      rw [List.flatMap_append]
      simp
    rw [hbi, w64 (by omega) (by omega), w64 (by omega) (by omega)]
    have := ih (i + 1) (by omega)
    rw [e, List.length_append] at this
    rw [show ((listG (l.take i) base).length : Int) + ((binsN l[i] base).length : Int) = (((listG (l.take i) base).length + (binsN l[i] base).length : Nat) : Int) from by omega, show (i : Int) + 1 = ((i + 1 : Nat) : Int) from by omega]
    exact this
theorem numsCoded_l0 (l : List Int) (base : Int) (B : List S31) (hB : B.length ≤ 1000000) (fin : B.length ≠ 0 → Ev (fun k => laws_FnNumsCoded.l1 k l base B 0 0) true) : ∀ (d i : Nat), i + d = B.length →
    Ev (fun k => laws_FnNumsCoded.l0 k l base B B i) true := by
  intro d
  induction d with
  | zero =>
    intro i hi
    refine Ev.step (fun k => by rw [laws_FnNumsCoded.l0]) (evNeg (by omega) (evIf (fun _ => Ev.now _) (fun h => fin (by omega))))
  | succ d ih =>
    intro i hi
    refine Ev.step (fun k => by rw [laws_FnNumsCoded.l0]) (evPos (by omega) (evPos (by omega) (evPos (by omega) (evNeg (by simp) ?_))))
    rw [w64 (by omega) (by omega)]
    exact ih (i + 1) (by omega)
theorem pure_NumsCoded : laws_FnNumsCoded.Pure := by
  intro code hq
  refine Ev.rounds (g := fun k => laws_FnNumsCoded.f k code) ?_
  unfold laws_FnNumsCoded.f
  refine evBind (evConst (big_f code)) (evIf (fun _ => Ev.now _) (fun hb => ?_))
  have hc : CodeOk code := ⟨by have := of_decide_eq_false (Bool.eq_false_iff.2 hb); omega, fun y hy => wf8 (hq.2 y hy)⟩
  obtain ⟨⟨l, base⟩, hd, hl⟩ := drawListBinsP code hc
  replace hl : l.length ≤ 10000 := hl
  refine evBind hd (evBind (iListBins_f l base) (evBind (sListBins_f l base) (evPos rfl ?_)))
  by_cases h : l.length ≤ 4096 ∧ inR base 0 380 = true ∧ allR l (-32767) 32767 = true
  · have e : listI l base = listG l base := by unfold listI; rw [if_pos h]
    have hlen := listG_length base l h.2.2
    simp only [e]
    exact numsCoded_l0 l base (listG l base) (by omega) (fun _ => numsCoded_l1 l base h.1 h.2.1 h.2.2 l.length 0 (by omega)) (listG l base).length 0 (by omega)
  · have e : listI l base = [] := by unfold listI; rw [if_neg h]
    simp only [e]
    exact numsCoded_l0 l base [] (by simp) (fun h => absurd rfl h) 0 0 (by simp)

end Go.Proofs.Ytdeheflbigggbaa.CM
