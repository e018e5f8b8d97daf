/- Functions that a law of this seat reaches: written by a program of this session (wip/xprint.py), and by hand. -/
import Derived.Test.YtdeheflbigggbaaCMx0
import Derived.Test.YtdeheflbigggbaaCMx6
import Derived.Test.YtdeheflbigggbaaCMx7
namespace Go.Proofs.Ytdeheflbigggbaa.CM
open Go.RowKit Go.Proofs.Ytdeheflbigggbaa.B Go.Proofs.YtdeheflbigggbaaW.PrintWords Go.Proofs.YtdeheflbigggbaaW.PrintLast Go.Proofs.YtdeheflbigggbaaW.PrintMore
attribute [local go_sem] max2_int min2_int max_two min_two max_three min_three max_four min_four   -- for this text's walks alone
set_option linter.unusedVariables false
set_option linter.unusedSimpArgs false

/-! ### spec_DrawListBins: function 43 -/
def spec_DrawListBins.f (k : Nat) (l0 : List Int) : Option (List Int × Int) := (spec_l01Open.f l0).bind fun bt226 => ((spec_l10DrawNums.f k bt226.1 bt226.2.1 bt226.2.2).bind fun bt230 => ((spec_l01Cur_pick.f bt226.1 bt230.2.1 bt230.2.2 14).bind fun bt235 => (if bt235.1 = 0 then ((spec_l01Cur_odd.f bt226.1 bt235.2.1 bt235.2.2).bind fun bt238 => (if bt230.1.length < 17592186044416 then ((some (([0, 40, 380, 381] : List Int) : List Int)).bind fun y244 => ((spec_l01Cur_pick.f bt226.1 bt238.2.1 bt238.2.2 4).bind fun bt247 => (if 0 ≤ bt247.1 then (if bt247.1 < (y244.length : Int) then (some ((bt230.1 ++ [bt238.1]), rd y244 bt247.1)) else (none)) else (none)))) else (none))) else (if bt235.1 = 1 then ((spec_l01Cur_pick.f bt226.1 bt235.2.1 bt235.2.2 2).bind fun bt251 => (if 0 ≤ (wrap64 (4096 + bt251.1)) then (if (wrap64 (4096 + bt251.1) : Int).toNat ≤ 35184372088832 then ((some (([0, 40, 380, 381] : List Int) : List Int)).bind fun y257 => ((spec_l01Cur_pick.f bt226.1 bt251.2.1 bt251.2.2 4).bind fun bt260 => (if 0 ≤ bt260.1 then (if bt260.1 < (y257.length : Int) then (some ((List.replicate (wrap64 (4096 + bt251.1) : Int).toNat 0), rd y257 bt260.1)) else (none)) else (none)))) else (none)) else (none))) else ((some (([0, 40, 380, 381] : List Int) : List Int)).bind fun y264 => ((spec_l01Cur_pick.f bt226.1 bt235.2.1 bt235.2.2 4).bind fun bt267 => (if 0 ≤ bt267.1 then (if bt267.1 < (y264.length : Int) then (some (bt230.1, rd y264 bt267.1)) else (none)) else (none))))))))
theorem spec_DrawListBins.mono : ∀ a0 k, LeO (spec_DrawListBins.f k a0) (spec_DrawListBins.f (k + 1) a0) := by
  intro a0 k
  unfold spec_DrawListBins.f
  repeat' first
      | (with_reducible exact spec_l10DrawNums.mono _ _ _ _)
      | (with_reducible exact LeO.refl _)
      | (with_reducible exact LeO.none _)
      | (with_reducible refine LeO.ite ?_ ?_)
      | (with_reducible refine LeO.bind ?_ (fun _ => ?_))
      | exact spec_l10DrawNums.mono _ _ _ _
      | exact LeO.none _
      | refine LeO.ite ?_ ?_
      | refine LeO.bind ?_ (fun _ => ?_)
def spec_DrawListBins.T8 : Bool × List (List Nat × List Nat) := (true, [([], []), ([], []), ([], []), ([2], [2]), ([1, 3], [1, 3]), ([4], [4]), ([0, 3, 0], [0]), ([5, 6, 0, 1, 2, 3, 4, 5, 6], [5])])
def spec_DrawListBins.B8 : List Nat := [0, 0, 0, 4, 14, 30, 13, 127]
theorem spec_DrawListBins.tab8 : rtab .any (opsOf Try.f43 8) = spec_DrawListBins.T8 := by kernel_rfl
theorem spec_DrawListBins.bits8 : waitsOk spec_DrawListBins.T8.2 spec_DrawListBins.B8 = true := by kernel_rfl
set_option maxHeartbeats 8000000 in
set_option maxRecDepth 100000 in
theorem spec_DrawListBins.calls (k : Nat) (A0 : Option Addr) (c0 : Nat) (l0 : List Int) (r1 : List Int) (r2 : Int) (w : World) (hr0 : Kd.C (Kd.int .u8) w A0 l0.length l0) (hc0 : l0.length ≤ c0) (h : spec_DrawListBins.f k l0 = some (r1, r2)) :
    Calls Try.prog 43 #[.slice A0 l0.length c0] w fun e w' => ∃ v0_ : Value, e = .returned (.tuple #[v0_, .int .i64 r2]) ∧ Kd.R (Kd.int .i64) 3 w' w.heap.size (fun _ => True) v0_ r1 ∧ Below w.heap.size w w' := by
  have HR0 := Aside0.mk hr0
  have HC0 := Aside0.mk hc0
  clear hr0 hc0
  have HB := Aside0.mk (Below.refl w.heap.size w)
  have H : ((spec_l01Open.f l0).bind fun bt226 => ((spec_l10DrawNums.f k bt226.1 bt226.2.1 bt226.2.2).bind fun bt230 => ((spec_l01Cur_pick.f bt226.1 bt230.2.1 bt230.2.2 14).bind fun bt235 => (if bt235.1 = 0 then ((spec_l01Cur_odd.f bt226.1 bt235.2.1 bt235.2.2).bind fun bt238 => (if bt230.1.length < 17592186044416 then ((some (([0, 40, 380, 381] : List Int) : List Int)).bind fun y244 => ((spec_l01Cur_pick.f bt226.1 bt238.2.1 bt238.2.2 4).bind fun bt247 => (if 0 ≤ bt247.1 then (if bt247.1 < (y244.length : Int) then (some ((bt230.1 ++ [bt238.1]), rd y244 bt247.1)) else (none)) else (none)))) else (none))) else (if bt235.1 = 1 then ((spec_l01Cur_pick.f bt226.1 bt235.2.1 bt235.2.2 2).bind fun bt251 => (if 0 ≤ (wrap64 (4096 + bt251.1)) then (if (wrap64 (4096 + bt251.1) : Int).toNat ≤ 35184372088832 then ((some (([0, 40, 380, 381] : List Int) : List Int)).bind fun y257 => ((spec_l01Cur_pick.f bt226.1 bt251.2.1 bt251.2.2 4).bind fun bt260 => (if 0 ≤ bt260.1 then (if bt260.1 < (y257.length : Int) then (some ((List.replicate (wrap64 (4096 + bt251.1) : Int).toNat 0), rd y257 bt260.1)) else (none)) else (none)))) else (none)) else (none))) else ((some (([0, 40, 380, 381] : List Int) : List Int)).bind fun y264 => ((spec_l01Cur_pick.f bt226.1 bt235.2.1 bt235.2.2 4).bind fun bt267 => (if 0 ≤ bt267.1 then (if bt267.1 < (y264.length : Int) then (some (bt230.1, rd y264 bt267.1)) else (none)) else (none))))))))) = some (r1, r2) := h
  clear h
  replace H := Option.bind_eq_some_iff.mp H
  obtain ⟨⟨t226, t227, t228⟩, A20, H⟩ := H
  replace H : ((spec_l10DrawNums.f k t226 t227 t228).bind fun bt230 => ((spec_l01Cur_pick.f t226 bt230.2.1 bt230.2.2 14).bind fun bt235 => (if bt235.1 = 0 then ((spec_l01Cur_odd.f t226 bt235.2.1 bt235.2.2).bind fun bt238 => (if bt230.1.length < 17592186044416 then ((some (([0, 40, 380, 381] : List Int) : List Int)).bind fun y244 => ((spec_l01Cur_pick.f t226 bt238.2.1 bt238.2.2 4).bind fun bt247 => (if 0 ≤ bt247.1 then (if bt247.1 < (y244.length : Int) then (some ((bt230.1 ++ [bt238.1]), rd y244 bt247.1)) else (none)) else (none)))) else (none))) else (if bt235.1 = 1 then ((spec_l01Cur_pick.f t226 bt235.2.1 bt235.2.2 2).bind fun bt251 => (if 0 ≤ (wrap64 (4096 + bt251.1)) then (if (wrap64 (4096 + bt251.1) : Int).toNat ≤ 35184372088832 then ((some (([0, 40, 380, 381] : List Int) : List Int)).bind fun y257 => ((spec_l01Cur_pick.f t226 bt251.2.1 bt251.2.2 4).bind fun bt260 => (if 0 ≤ bt260.1 then (if bt260.1 < (y257.length : Int) then (some ((List.replicate (wrap64 (4096 + bt251.1) : Int).toNat 0), rd y257 bt260.1)) else (none)) else (none)))) else (none)) else (none))) else ((some (([0, 40, 380, 381] : List Int) : List Int)).bind fun y264 => ((spec_l01Cur_pick.f t226 bt235.2.1 bt235.2.2 4).bind fun bt267 => (if 0 ≤ bt267.1 then (if bt267.1 < (y264.length : Int) then (some (bt230.1, rd y264 bt267.1)) else (none)) else (none)))))))) = some (r1, r2) := H
  have A2 := Aside0.mk A20
  clear A20
  replace H := Option.bind_eq_some_iff.mp H
  obtain ⟨⟨t230, t233, t234⟩, A30, H⟩ := H
  replace H : ((spec_l01Cur_pick.f t226 t233 t234 14).bind fun bt235 => (if bt235.1 = 0 then ((spec_l01Cur_odd.f t226 bt235.2.1 bt235.2.2).bind fun bt238 => (if t230.length < 17592186044416 then ((some (([0, 40, 380, 381] : List Int) : List Int)).bind fun y244 => ((spec_l01Cur_pick.f t226 bt238.2.1 bt238.2.2 4).bind fun bt247 => (if 0 ≤ bt247.1 then (if bt247.1 < (y244.length : Int) then (some ((t230 ++ [bt238.1]), rd y244 bt247.1)) else (none)) else (none)))) else (none))) else (if bt235.1 = 1 then ((spec_l01Cur_pick.f t226 bt235.2.1 bt235.2.2 2).bind fun bt251 => (if 0 ≤ (wrap64 (4096 + bt251.1)) then (if (wrap64 (4096 + bt251.1) : Int).toNat ≤ 35184372088832 then ((some (([0, 40, 380, 381] : List Int) : List Int)).bind fun y257 => ((spec_l01Cur_pick.f t226 bt251.2.1 bt251.2.2 4).bind fun bt260 => (if 0 ≤ bt260.1 then (if bt260.1 < (y257.length : Int) then (some ((List.replicate (wrap64 (4096 + bt251.1) : Int).toNat 0), rd y257 bt260.1)) else (none)) else (none)))) else (none)) else (none))) else ((some (([0, 40, 380, 381] : List Int) : List Int)).bind fun y264 => ((spec_l01Cur_pick.f t226 bt235.2.1 bt235.2.2 4).bind fun bt267 => (if 0 ≤ bt267.1 then (if bt267.1 < (y264.length : Int) then (some (t230, rd y264 bt267.1)) else (none)) else (none))))))) = some (r1, r2) := H
  have A3 := Aside0.mk A30
  clear A30
  replace H := Option.bind_eq_some_iff.mp H
  obtain ⟨⟨t235, t236, t237⟩, A40, H⟩ := H
  replace H : (if t235 = 0 then ((spec_l01Cur_odd.f t226 t236 t237).bind fun bt238 => (if t230.length < 17592186044416 then ((some (([0, 40, 380, 381] : List Int) : List Int)).bind fun y244 => ((spec_l01Cur_pick.f t226 bt238.2.1 bt238.2.2 4).bind fun bt247 => (if 0 ≤ bt247.1 then (if bt247.1 < (y244.length : Int) then (some ((t230 ++ [bt238.1]), rd y244 bt247.1)) else (none)) else (none)))) else (none))) else (if t235 = 1 then ((spec_l01Cur_pick.f t226 t236 t237 2).bind fun bt251 => (if 0 ≤ (wrap64 (4096 + bt251.1)) then (if (wrap64 (4096 + bt251.1) : Int).toNat ≤ 35184372088832 then ((some (([0, 40, 380, 381] : List Int) : List Int)).bind fun y257 => ((spec_l01Cur_pick.f t226 bt251.2.1 bt251.2.2 4).bind fun bt260 => (if 0 ≤ bt260.1 then (if bt260.1 < (y257.length : Int) then (some ((List.replicate (wrap64 (4096 + bt251.1) : Int).toNat 0), rd y257 bt260.1)) else (none)) else (none)))) else (none)) else (none))) else ((some (([0, 40, 380, 381] : List Int) : List Int)).bind fun y264 => ((spec_l01Cur_pick.f t226 t236 t237 4).bind fun bt267 => (if 0 ≤ bt267.1 then (if bt267.1 < (y264.length : Int) then (some (t230, rd y264 bt267.1)) else (none)) else (none)))))) = some (r1, r2) := H
  have A4 := Aside0.mk A40
  clear A40
  by_cases c5 : t235 = 0
  · rw [if_pos c5] at H
    have c5b0 : (t235 == 0) = true := beq_iff_eq.mpr c5
    have c5b1 : (t235 != 0) = false := bne_eq_false_iff_eq.mpr c5
    clear c5
    replace H := Option.bind_eq_some_iff.mp H
    obtain ⟨⟨t238, t239, t240⟩, A60, H⟩ := H
    replace H : (if t230.length < 17592186044416 then ((some (([0, 40, 380, 381] : List Int) : List Int)).bind fun y244 => ((spec_l01Cur_pick.f t226 t239 t240 4).bind fun bt247 => (if 0 ≤ bt247.1 then (if bt247.1 < (y244.length : Int) then (some ((t230 ++ [t238]), rd y244 bt247.1)) else (none)) else (none)))) else (none)) = some (r1, r2) := H
    have A6 := Aside0.mk A60
    clear A60
    by_cases c7 : t230.length < 17592186044416
    · rw [if_pos c7] at H
      have LMc7 := Aside0.mk c7
      clear c7
      obtain ⟨y241, hy241⟩ : ∃ y_ : List Int, y_ = (t230 ++ [t238]) := ⟨_, rfl⟩
      replace H : ((some (([0, 40, 380, 381] : List Int) : List Int)).bind fun y244 => ((spec_l01Cur_pick.f t226 t239 t240 4).bind fun bt247 => (if 0 ≤ bt247.1 then (if bt247.1 < (y244.length : Int) then (some (y241, rd y244 bt247.1)) else (none)) else (none)))) = some (r1, r2) := by first | (rw [hy241]; with_reducible exact H) | (have H2_ := (Option.bind_some _ _).symm.trans H; rw [hy241]; with_reducible exact H2_) | (have H2_ := (Option.bind_some _ _).symm.trans H; with_reducible exact H2_) | with_reducible exact H | (rw [hy241]; exact H) | exact H
      have Ny241 := Aside0.mk hy241
      clear hy241
      obtain ⟨y244, hy244⟩ : ∃ y_ : List Int, y_ = (([0, 40, 380, 381] : List Int)) := ⟨_, rfl⟩
      replace H : ((spec_l01Cur_pick.f t226 t239 t240 4).bind fun bt247 => (if 0 ≤ bt247.1 then (if bt247.1 < (y244.length : Int) then (some (y241, rd y244 bt247.1)) else (none)) else (none))) = some (r1, r2) := by first | (rw [hy244]; with_reducible exact H) | (have H2_ := (Option.bind_some _ _).symm.trans H; rw [hy244]; with_reducible exact H2_) | (have H2_ := (Option.bind_some _ _).symm.trans H; with_reducible exact H2_) | with_reducible exact H | (rw [hy244]; exact H) | exact H
      have Ny244 := Aside0.mk hy244
      clear hy244
      replace H := Option.bind_eq_some_iff.mp H
      obtain ⟨⟨t247, t248, t249⟩, A80, H⟩ := H
      replace H : (if 0 ≤ t247 then (if t247 < (y244.length : Int) then (some (y241, rd y244 t247)) else (none)) else (none)) = some (r1, r2) := H
      have A8 := Aside0.mk A80
      clear A80
      by_cases c9 : 0 ≤ t247
      · rw [if_pos c9] at H
        have c9b0 : decide (0 ≤ t247) = true := decide_eq_true c9
        clear c9
        by_cases c10 : t247 < (y244.length : Int)
        · rw [if_pos c10] at H
          have c10b0 : decide (t247 < (y244.length : Int)) = true := decide_eq_true c10
          clear c10
          simp only [Option.some.injEq, Prod.mk.injEq] at H
          obtain ⟨rfl, rfl⟩ := H
          go_enter Try.func43, Try.ntmps43
          try go_wp2_with (first | ((with_reducible refine gate_callee (f := 78) rfl ?_); refine goesL_ (some 7) rfl rfl Try.func78 (by kernel_rfl) rfl #[.slice A0 l0.length c0] rfl (by (try simp only [List.map_toArray, List.map_cons, List.map_nil]); first | done | rfl | (simp only [List.length_drop, List.length_take]; rfl)) ?_; (with_reducible refine (spec_l01Open.calls _ _ l0 t226 t227 t228 w _ ?side1 ?side2 ?side3 A2.out).mono ?_); (case side1 => repeat (first | (with_reducible first | exact HB.out | apply below_alloc | apply pw_below_drewN | apply below_drew1) | exact HB.out)); (case side2 => exact HR0.out); (case side3 => exact HC0.out); rintro e w11 ⟨g229, rfl, hi, hb, hb2⟩; refine ⟨_, rfl, ?_⟩; have n0_ := Aside0.mk (hb); have n1_ := Aside0.mk (hi); clear HB; have HB := n0_; have HI229 := n1_; clear n0_ n1_; (try clear hb); (try clear hb2); (try clear hk); (try clear hi)) | ((with_reducible refine gate_callee (f := 80) rfl ?_); refine goesL_ (some 9) rfl rfl Try.func80 (by kernel_rfl) rfl #[.pointer (some ⟨g229, 0, none⟩)] rfl (by (try simp only [List.map_toArray, List.map_cons, List.map_nil]); first | done | rfl | (simp only [List.length_drop, List.length_take]; rfl)) ?_; (with_reducible refine (spec_l10DrawNums.calls k g229 t226 t227 t228 t230 t233 t234 w _ ?side1 ?side2 A3.out).mono ?_); (case side1 => repeat (first | (with_reducible first | exact HI229.out | apply IsS116.alloc | apply IsS116.drewN | apply IsS116.drew | apply IsS116.set_1 | apply IsS116.set_2) | exact HI229.out)); (case side2 => repeat (first | (with_reducible first | exact HB.out | apply below_alloc | apply pw_below_drewN | apply below_drew1 | refine below_set ?_ (IsS116.ge HI229.out)) | exact HB.out)); rintro e w12 ⟨v231, rfl, ho0, hi, hb, hk⟩; refine ⟨_, rfl, ?_⟩; have n0_ := Aside0.mk (Kd.R_lower ho0 (below_size (by repeat (first | (with_reducible first | exact HB.out | apply below_alloc | apply pw_below_drewN | apply below_drew1 | refine below_set ?_ (IsS116.ge HI229.out)) | exact HB.out)))); have n1_ := Aside0.mk (hb); have n2_ := Aside0.mk (hi); clear HB; clear HI229; have HO232 := n0_; have HB := n1_; have HI229 := n2_; clear n0_ n1_ n2_; (try clear hb); (try clear hb2); (try clear hk); (try clear hi); (try clear ho0)) | ((with_reducible refine gate_callee (f := 81) rfl ?_); refine goesL_ (some 11) rfl rfl Try.func81 (by kernel_rfl) rfl #[.pointer (some ⟨g229, 0, none⟩), .int .i64 14] rfl (by (try simp only [List.map_toArray, List.map_cons, List.map_nil]); first | done | rfl | (simp only [List.length_drop, List.length_take]; rfl)) ?_; (with_reducible refine (spec_l01Cur_pick.calls g229 t226 t233 t234 14 t235 t236 t237 w _ ?side1 ?side2 A4.out).mono ?_); (case side1 => repeat (first | (with_reducible first | exact HI229.out | apply IsS116.alloc | apply IsS116.drewN | apply IsS116.drew | apply IsS116.set_1 | apply IsS116.set_2) | exact HI229.out)); (case side2 => repeat (first | (with_reducible first | exact HB.out | apply below_alloc | apply pw_below_drewN | apply below_drew1 | refine below_set ?_ (IsS116.ge HI229.out)) | exact HB.out)); rintro e w13 ⟨rfl, hi, hb, hk⟩; refine ⟨_, rfl, ?_⟩; have n0_ := Aside0.mk (Kd.R_mono (Kd.R_keep (IsS116.apart (show IsS116 w _ g229 t226 t233 t234 from by repeat (first | (with_reducible first | exact HI229.out | apply IsS116.alloc | apply IsS116.drewN | apply IsS116.drew | apply IsS116.set_1 | apply IsS116.set_2) | exact HI229.out)) (by (with_reducible repeat (first | apply Kd.R_alloc | apply Kd.R_drewN | apply Kd.R_drew)); exact HO232.out) (by decide)) hk (fun _ h => h.2)) (fun _ h => h.1)); have n1_ := Aside0.mk (hb); have n2_ := Aside0.mk (hi); clear HO232; clear HB; clear HI229; have HO232 := n0_; have HB := n1_; have HI229 := n2_; clear n0_ n1_ n2_; (try clear hb); (try clear hb2); (try clear hk); (try clear hi)) | ((with_reducible refine gate_callee (f := 82) rfl ?_); refine goesL_ (some 16) rfl rfl Try.func82 (by kernel_rfl) rfl #[.pointer (some ⟨g229, 0, none⟩)] rfl (by (try simp only [List.map_toArray, List.map_cons, List.map_nil]); first | done | rfl | (simp only [List.length_drop, List.length_take]; rfl)) ?_; (with_reducible refine (spec_l01Cur_odd.calls g229 t226 t236 t237 t238 t239 t240 w _ ?side1 ?side2 A6.out).mono ?_); (case side1 => repeat (first | (with_reducible first | exact HI229.out | apply IsS116.alloc | apply IsS116.drewN | apply IsS116.drew | apply IsS116.set_1 | apply IsS116.set_2) | exact HI229.out)); (case side2 => repeat (first | (with_reducible first | exact HB.out | apply below_alloc | apply pw_below_drewN | apply below_drew1 | refine below_set ?_ (IsS116.ge HI229.out)) | exact HB.out)); rintro e w14 ⟨rfl, hi, hb, hk⟩; refine ⟨_, rfl, ?_⟩; have n0_ := Aside0.mk (Kd.R_mono (Kd.R_keep (IsS116.apart (show IsS116 w _ g229 t226 t236 t237 from by repeat (first | (with_reducible first | exact HI229.out | apply IsS116.alloc | apply IsS116.drewN | apply IsS116.drew | apply IsS116.set_1 | apply IsS116.set_2) | exact HI229.out)) (by (with_reducible repeat (first | apply Kd.R_alloc | apply Kd.R_drewN | apply Kd.R_drew)); exact HO232.out) (by decide)) hk (fun _ h => h.2)) (fun _ h => h.1)); have n1_ := Aside0.mk (hb); have n2_ := Aside0.mk (hi); clear HO232; clear HB; clear HI229; have HO232 := n0_; have HB := n1_; have HI229 := n2_; clear n0_ n1_ n2_; (try clear hb); (try clear hb2); (try clear hk); (try clear hi)) | ((with_reducible refine gate_builtin (b := .append) (xs := #[.tmp 14, .tmp 17]) rfl ?_); at_builtin; refine Kd.R_append (Kd.int .i64) (w0 := w) w.heap.size rfl (.tmp 14) (.tmp 17) 34 3 (.int .i64 0) 8 rfl Try.underlying34 info3 rfl (by decide) (by omega) v231 t230 t238 [.int .i64 t238] (fun _ => True) (fun _ => False) rfl rfl ?aP (fun _ hk => hk.elim) ?aF ?aO ?aB ?aS ?aL ?_; (case aP => exact rfl); (case aB => exact (by repeat (first | (with_reducible first | exact HB.out | apply below_alloc | apply pw_below_drewN | apply below_drew1 | refine below_set ?_ (IsS116.ge HI229.out)) | exact HB.out))); (case aF => exact (fun _ _ => trivial)); (case aO => exact (by (with_reducible repeat (first | apply Kd.R_alloc | apply Kd.R_drewN | apply Kd.R_drew)); exact HO232.out)); (case aS => exact (below_size (by repeat (first | (with_reducible first | exact HB.out | apply below_alloc | apply pw_below_drewN | apply below_drew1 | refine below_set ?_ (IsS116.ge HI229.out)) | exact HB.out)))); (case aL => have := LMc7.out; omega); intro v242 w15 ho hb hg hat; rw [← Ny241.out] at ho; have n0_ := Aside0.mk (IsS116.grown (by repeat (first | (with_reducible first | exact HI229.out | apply IsS116.alloc | apply IsS116.drewN | apply IsS116.drew | apply IsS116.set_1 | apply IsS116.set_2) | exact HI229.out)) hg (IsS116.own_ne HI229.out HO232.out (by decide))); have n1_ := Aside0.mk (hb); have n2_ := Aside0.mk (ho); clear HI229; clear HB; clear HO232; have HI229 := n0_; have HB := n1_; have HO243 := n2_; clear n0_ n1_ n2_; clear ho hb hg hat))
          have pi250 : (0 ≤ (t247 : Int)) = True := eq_true (of_decide_eq_true (by first | (with_reducible assumption) | assumption))
          have qi250 : (t247 < (y244.length : Int)) = True := eq_true (of_decide_eq_true (by first | (with_reducible assumption) | assumption))
          have n0_ := Aside0.mk (Kd.R_drew HO243.out)
          have n1_ := Aside0.mk (IsS116.drew HI229.out)
          have n2_ := Aside0.mk (below_drew1 HB.out)
          clear HO243
          clear HI229
          clear HB
          have HO243 := n0_
          have HI229 := n1_
          have HB := n2_
          clear n0_ n1_ n2_
          refine start_ (n := 8) (S := fun w' => True) (ds := []) #[false, false, false, false, false, false, false, false] (by kernel_rfl) rfl rfl trivial (fun hHeld => ?_); refine with_tabW spec_DrawListBins.tab8 spec_DrawListBins.bits8 (fun HT_ HW_ => ?_)
          generalize w15.drew = w16 at HO243 HI229 HB hHeld ⊢
          refine pure_ (i := 0) (N := some 25) (v := ?_) (a' := ?_) #[true, false, false, false, false, false, false, false] rfl rfl (any_of HT_.out (by kernel_rfl)) (fun _ _ _ h => h) (Or.inl ⟨by rfl, ?_⟩) ?_ ?_
          rotate_left
          · intro w'
            go_simp
            with_reducible rfl
          rotate_left
          · simp only [Act.put, List.setIfInBounds_toArray, List.set_cons_zero, List.set_cons_succ, i64_w, i32_w]
            rfl
          refine pure_ (i := 2) (N := some 27) (v := ?_) (a' := ?_) #[true, false, true, false, false, false, false, false] rfl rfl (any_of HT_.out (by kernel_rfl)) (fun _ _ _ h => h) (Or.inl ⟨by rfl, ?_⟩) ?_ ?_
          rotate_left
          · intro w'
            go_simp
            with_reducible rfl
          rotate_left
          · simp only [Act.put, List.setIfInBounds_toArray, List.set_cons_zero, List.set_cons_succ, i64_w, i32_w]
            rfl
          refine inv_at [1, 3, 4, 5, 6, 7] (fun a0_ b a w' => ∃ (v245 : Value) (adz_v245 : Addr) (m4_ : Value), a = putSel a0_ b [(1, 26, v245), (3, 28, .int .i64 t247), (4, 29, m4_), (5, 30, .int .i64 (rd y244 t247)), (6, 2, v242), (7, 3, .int .i64 (rd y244 t247))] ∧ (Kd.R (Kd.int .i64) 3 w' w.heap.size (fun _ => True) v242 y241) ∧ (b 3 = false → IsS116 w w' g229 t226 t239 t240) ∧ (Below w.heap.size w w') ∧ (b 1 = true → Kd.R (Kd.int .i64) 3 w' w.heap.size (fun k_ => some k_ ≠ (v242 : Value).ownBlock) v245 y244) ∧ (b 1 = true → ∃ c_, (v245 : Value) = .slice (some adz_v245) y244.length c_) ∧ (b 3 = true → IsS116 w w' g229 t226 t248 t249) ∧ (b 4 = true → (m4_ : Value) = .pointer (some (adz_v245.add (t247).toNat)))) HT_.out HW_.out (by kernel_rfl) (by kernel_rfl) ?_ ?_ ?_
          · exact ⟨.bool false, ⟨0, 0, none⟩, .bool false, by simp only [putSel, Bool.false_eq_true, if_false], (by first | exact HO243.out | exact Kd.R_mono HO243.out (fun _ hk => by first | exact ⟨hk.1.2, hk.2⟩ | exact ⟨hk.1, hk.2⟩ | exact hk.2 | exact hk.1 | exact hk | exact hk.1.2 | exact hk.1.1 | exact hk.2.1 | exact hk.2.2 | exact ⟨trivial, hk⟩ | exact ⟨trivial, hk.2⟩ | exact ⟨trivial, hk.1⟩ | trivial)), fun _ => HI229.out, HB.out, fun h_ => absurd h_ (by decide), fun h_ => absurd h_ (by decide), fun h_ => absurd h_ (by decide), fun h_ => absurd h_ (by decide)⟩
          · skip
            clear HB HI229 HO243
            refine steps_cons ?_ ?_
            · rintro b a w' ⟨v245, adz_v245, m4_, ha, Q_HO243, Q_HI229, Q_HB, Q_HO246, Q_HA_HO246, Q_HI229_e3, Q_X4_⟩ hb_ hon hoff
              refine ⟨_, rfl, fun K hK => ?_⟩
              replace ha := Aside0.mk ha
              have HO243 := Aside0.mk Q_HO243
              have HB := Aside0.mk Q_HB
              refine Kd.R_lit_step (Kd.int .i64) _ 3 ?hg (N := 26) ?hd (xs := ([0, 40, 380, 381] : List Int)) (inner := [.int .i64 0, .int .i64 40, .int .i64 380, .int .i64 381]) (ok := fun _ => True) (okp := fun _ => True) ?hr ?hp (fun _ hk => hk) trivial (Below.refl _ _) (Nat.le_refl _) (by simp) ?_; (case hd => rfl); (case hg => rfl); (case hr => first | (go_simp; done) | (go_simp; rfl)); (case hp => exact (Reps.one (show Kd.M (Kd.int .i64) _ _ _ 0 [.int .i64 0] from rfl) (Reps.one (show Kd.M (Kd.int .i64) _ _ _ 40 [.int .i64 40] from rfl) (Reps.one (show Kd.M (Kd.int .i64) _ _ _ 380 [.int .i64 380] from rfl) (Reps.one (show Kd.M (Kd.int .i64) _ _ _ 381 [.int .i64 381] from rfl) (Reps.none _ _))))))
              intro v245 w17 ho18 hb hg_ hnew_
              clear hg_ hnew_
              (first | rw [← Ny244.out] at ho18 | (simp only [Int.reduceToNat] at ho18; rw [← Ny244.out] at ho18))
              have n0_ := Aside0.mk (Kd.R_elder' (by (with_reducible repeat (first | apply Kd.R_alloc | apply Kd.R_drewN | apply Kd.R_drew)); exact HO243.out) (Kd.R_base ho18) hb)
              have n1_ := Aside0.mk (Kd.R_lower (Kd.R_new' ho18 (Kd.R_lt (by (with_reducible repeat (first | apply Kd.R_alloc | apply Kd.R_drewN | apply Kd.R_drew)); exact HO243.out))) (below_size (by repeat (first | (with_reducible first | exact HB.out | apply below_alloc | apply pw_below_drewN | apply below_drew1) | exact HB.out))))
              have n3_ := Aside0.mk (below_step (by repeat (first | (with_reducible first | exact HB.out | apply below_alloc | apply pw_below_drewN | apply below_drew1) | exact HB.out)) hb)
              have z_HI229 := fun (h0_ : b 3 = false) => (show IsS116 w w17 g229 t226 t239 t240 from by first | exact (IsS116.below (by repeat (first | (with_reducible first | exact (Q_HI229 h0_) | apply IsS116.alloc | apply IsS116.drewN | apply IsS116.drew | apply IsS116.set_1 | apply IsS116.set_2) | exact (Q_HI229 h0_))) hb))
              have z_HI229_e3 := fun (h0_ : b 3 = true) => (show IsS116 w w17 g229 t226 t248 t249 from by first | exact (IsS116.below (by repeat (first | (with_reducible first | exact (Q_HI229_e3 h0_) | apply IsS116.alloc | apply IsS116.drewN | apply IsS116.drew | apply IsS116.set_1 | apply IsS116.set_2) | exact (Q_HI229_e3 h0_))) hb))
              clear HO243
              clear HB
              have HO243 := n0_
              have HO246 := n1_
              have HB := n3_
              clear n0_ n1_ n3_
              clear hb ho18
              obtain ⟨Ao19, co19, eo19⟩ := Kd.R_slice HO246.out
              subst eo19
              obtain ⟨ado19, fo19, _⟩ := Kd.at_int (Kd.R_reads' HO246.out).2.2 0 (by decide) (by rw [Ny244.out]; simp)
              cases fo19
              refine hK.out _ _ ⟨.slice (some ado19) y244.length co19, ado19, m4_, (by rw [ha.out]; exact putSel_upk 0 hb_ rfl rfl rfl), (by (with_reducible repeat (first | apply Kd.R_alloc | apply Kd.R_drewN | apply Kd.R_drew)); exact Kd.R_mono HO243.out (fun _ hk => by first | exact ⟨hk.1.2, hk.2⟩ | exact ⟨hk.1, hk.2⟩ | exact hk.2 | exact hk.1 | exact hk | exact hk.1.2 | exact hk.1.1 | exact hk.2.1 | exact hk.2.2 | exact ⟨trivial, hk⟩ | exact ⟨trivial, hk.2⟩ | exact ⟨trivial, hk.1⟩ | trivial)), z_HI229, (by repeat (first | (with_reducible first | exact HB.out | apply below_alloc | apply pw_below_drewN | apply below_drew1) | exact HB.out)), fun _ => (by (with_reducible repeat (first | apply Kd.R_alloc | apply Kd.R_drewN | apply Kd.R_drew)); exact Kd.R_mono HO246.out (fun _ hk => by first | exact ⟨hk.1.2, hk.2⟩ | exact ⟨hk.1, hk.2⟩ | exact hk.2 | exact hk.1 | exact hk | exact hk.1.2 | exact hk.1.1 | exact hk.2.1 | exact hk.2.2 | exact ⟨trivial, hk⟩ | exact ⟨trivial, hk.2⟩ | exact ⟨trivial, hk.1⟩ | trivial)), fun _ => ⟨_, rfl⟩, z_HI229_e3, fun h0_ => absurd ((hoff 4 (by kernel_rfl)).symm.trans h0_) (by decide)⟩
            refine steps_cons ?_ ?_
            · rintro b a w' ⟨v245, adz_v245, m4_, ha, Q_HO243, Q_HI229, Q_HB, Q_HO246, Q_HA_HO246, Q_HI229_e3, Q_X4_⟩ hb_ hon hoff
              refine ⟨_, rfl, fun K hK => ?_⟩
              have e27 : a.tmps[27]? = some (.pointer (some ⟨g229, 0, none⟩)) := by rw [ha]; exact (putSel_off rfl).trans rfl
              replace ha := Aside0.mk ha
              have HO243 := Aside0.mk Q_HO243
              have HI229 := Aside0.mk (Q_HI229 hb_)
              have HB := Aside0.mk Q_HB
              refine goes_ Try.func81 (by kernel_rfl) rfl #[.pointer (some ⟨g229, 0, none⟩), .int .i64 4] (by rfl) rfl rfl (by first | (simp only [List.map_toArray, List.map_cons, List.map_nil, Act.eval, Array.getD_eq_getD_getElem?, Option.getD_some, e27]; done) | (simp only [List.map_toArray, List.map_cons, List.map_nil, Act.eval, Array.getD_eq_getD_getElem?, Option.getD_some, e27]; rfl)) ?_
              with_reducible refine (spec_l01Cur_pick.calls g229 t226 t239 t240 4 t247 t248 t249 w _ ?side1 ?side2 A8.out).mono ?_
              (case side1 => repeat (first | (with_reducible first | exact HI229.out | apply IsS116.alloc | apply IsS116.drewN | apply IsS116.drew | apply IsS116.set_1 | apply IsS116.set_2) | exact HI229.out))
              (case side2 => repeat (first | (with_reducible first | exact HB.out | apply below_alloc | apply pw_below_drewN | apply below_drew1 | refine below_set ?_ (IsS116.ge HI229.out)) | exact HB.out))
              rintro e w17 ⟨rfl, hi, hb, hk⟩
              refine ⟨_, rfl, ?_⟩
              have n0_ := Aside0.mk (Kd.R_mono (Kd.R_keep (IsS116.apart (show IsS116 w _ g229 t226 t239 t240 from by repeat (first | (with_reducible first | exact HI229.out | apply IsS116.alloc | apply IsS116.drewN | apply IsS116.drew | apply IsS116.set_1 | apply IsS116.set_2) | exact HI229.out)) (by (with_reducible repeat (first | apply Kd.R_alloc | apply Kd.R_drewN | apply Kd.R_drew)); exact HO243.out) (by decide)) hk (fun _ h => h.2)) (fun _ h => h.1))
              have n1_ := Aside0.mk (hb)
              have n2_ := Aside0.mk (hi)
              have z_HO246 := fun (h0_ : b 1 = true) => (show Kd.R (Kd.int .i64) 3 w17 w.heap.size (fun k_ => some k_ ≠ (v242 : Value).ownBlock) v245 y244 from by first | exact (Kd.R_mono (Kd.R_keep (IsS116.apart (show IsS116 w _ g229 t226 t239 t240 from by repeat (first | (with_reducible first | exact HI229.out | apply IsS116.alloc | apply IsS116.drewN | apply IsS116.drew | apply IsS116.set_1 | apply IsS116.set_2) | exact HI229.out)) (by (with_reducible repeat (first | apply Kd.R_alloc | apply Kd.R_drewN | apply Kd.R_drew)); exact (Q_HO246 h0_)) (by decide)) hk (fun _ h => h.2)) (fun _ h => h.1)) | exact Kd.R_mono (Kd.R_mono (Kd.R_keep (IsS116.apart (show IsS116 w _ g229 t226 t239 t240 from by repeat (first | (with_reducible first | exact HI229.out | apply IsS116.alloc | apply IsS116.drewN | apply IsS116.drew | apply IsS116.set_1 | apply IsS116.set_2) | exact HI229.out)) (by (with_reducible repeat (first | apply Kd.R_alloc | apply Kd.R_drewN | apply Kd.R_drew)); exact (Q_HO246 h0_)) (by decide)) hk (fun _ h => h.2)) (fun _ h => h.1)) (fun _ h_ => by first | trivial | exact h_ | exact h_.1))
              clear HO243
              clear HB
              clear HI229
              have HO243 := n0_
              have HB := n1_
              have HI229 := n2_
              clear n0_ n1_ n2_
              (try clear hb)
              (try clear hb2)
              (try clear hk)
              (try clear hi)
              refine hK.out _ _ ⟨v245, adz_v245, m4_, (by rw [ha.out]; exact putSel_upk 1 hb_ rfl rfl rfl), (by (with_reducible repeat (first | apply Kd.R_alloc | apply Kd.R_drewN | apply Kd.R_drew)); exact HO243.out), fun h0_ => absurd ((up_self b 3).symm.trans h0_) (by decide), (by repeat (first | (with_reducible first | exact HB.out | apply below_alloc | apply pw_below_drewN | apply below_drew1 | refine below_set ?_ (IsS116.ge HI229.out)) | exact HB.out)), z_HO246, Q_HA_HO246, fun _ => (by repeat (first | (with_reducible first | exact HI229.out | apply IsS116.alloc | apply IsS116.drewN | apply IsS116.drew | apply IsS116.set_1 | apply IsS116.set_2) | exact HI229.out)), fun h0_ => absurd ((hoff 4 (by kernel_rfl)).symm.trans h0_) (by decide)⟩
            refine steps_cons ?_ ?_
            · rintro b a w' ⟨v245, adz_v245, m4_, ha, Q_HO243, Q_HI229, Q_HB, Q_HO246, Q_HA_HO246, Q_HI229_e3, Q_X4_⟩ hb_ hon hoff
              refine ⟨_, rfl, fun K hK => ?_⟩
              have e26 : a.tmps[26]? = some (v245) := by rw [ha]; exact putSel_on (e := (1, 26, v245)) 0 rfl rfl (hon 1 (by kernel_rfl)) rfl
              have e28 : a.tmps[28]? = some (.int .i64 t247) := by rw [ha]; exact putSel_on (e := (3, 28, .int .i64 t247)) 1 rfl rfl (hon 3 (by kernel_rfl)) rfl
              replace ha := Aside0.mk ha
              have HO243 := Aside0.mk Q_HO243
              have HB := Aside0.mk Q_HB
              have HO246 := Aside0.mk (Q_HO246 (hon 1 (by kernel_rfl)))
              have HA_HO246 := Aside0.mk (Q_HA_HO246 (hon 1 (by kernel_rfl)))
              have HI229 := Aside0.mk (Q_HI229_e3 (hon 3 (by kernel_rfl)))
              obtain ⟨c_, hv_⟩ := HA_HO246.out
              rw [hv_] at e26
              refine value_ (w1 := w') (v := .pointer (some (adz_v245.add (t247).toNat))) (by rfl) rfl ?_ ?_
              · go_simp
                (try simp only [i64_w])
                try rfl
              refine hK.out _ _ ⟨v245, adz_v245, (.pointer (some (adz_v245.add (t247).toNat))), (by rw [ha.out]; exact putSel_upk 2 hb_ rfl rfl rfl), Q_HO243, fun h0_ => absurd ((hon 3 (by kernel_rfl)).symm.trans h0_) (by decide), Q_HB, Q_HO246, Q_HA_HO246, Q_HI229_e3, fun _ => rfl⟩
            refine steps_cons ?_ ?_
            · rintro b a w' ⟨v245, adz_v245, m4_, ha, Q_HO243, Q_HI229, Q_HB, Q_HO246, Q_HA_HO246, Q_HI229_e3, Q_X4_⟩ hb_ hon hoff
              refine ⟨_, rfl, fun K hK => ?_⟩
              have e29 : a.tmps[29]? = some (m4_) := by rw [ha]; exact putSel_on (e := (4, 29, m4_)) 2 rfl rfl (hon 4 (by kernel_rfl)) rfl
              rw [Q_X4_ (hon 4 (by kernel_rfl))] at e29
              replace ha := Aside0.mk ha
              have HO243 := Aside0.mk Q_HO243
              have HB := Aside0.mk Q_HB
              have HO246 := Aside0.mk (Q_HO246 (hon 1 (by kernel_rfl)))
              have HA_HO246 := Aside0.mk (Q_HA_HO246 (hon 1 (by kernel_rfl)))
              have HI229 := Aside0.mk (Q_HI229_e3 (hon 3 (by kernel_rfl)))
              obtain ⟨c_, hv_⟩ := HA_HO246.out
              have hF_ := HO246.out
              rw [hv_] at hF_
              obtain ⟨ad_, ea_, hx_⟩ := Kd.at_int (Kd.R_reads' hF_).2.2 t247 (of_eq_true pi250) (of_eq_true qi250)
              cases ea_
              refine value_ (w1 := w') (v := .int .i64 (rd y244 t247)) (by rfl) rfl ?_ ?_
              · go_simp
                (try simp only [i64_w])
                try rfl
              refine hK.out _ _ ⟨v245, adz_v245, m4_, (by rw [ha.out]; exact putSel_upk 3 hb_ rfl rfl rfl), Q_HO243, fun h0_ => absurd ((hon 3 (by kernel_rfl)).symm.trans h0_) (by decide), Q_HB, Q_HO246, Q_HA_HO246, Q_HI229_e3, Q_X4_⟩
            refine steps_cons ?_ ?_
            · rintro b a w' ⟨v245, adz_v245, m4_, ha, Q_HO243, Q_HI229, Q_HB, Q_HO246, Q_HA_HO246, Q_HI229_e3, Q_X4_⟩ hb_ hon hoff
              refine ⟨_, rfl, fun K hK => ?_⟩
              have e25 : a.tmps[25]? = some (v242) := by rw [ha]; exact (putSel_off rfl).trans rfl
              replace ha := Aside0.mk ha
              have HO243 := Aside0.mk Q_HO243
              have HB := Aside0.mk Q_HB
              have HI229 := Aside0.mk (Q_HI229_e3 (hon 3 (by kernel_rfl)))
              refine value_ (w1 := w') (v := v242) (by rfl) rfl ?_ ?_
              · go_simp
                (try simp only [i64_w])
                try rfl
              refine hK.out _ _ ⟨v245, adz_v245, m4_, (by rw [ha.out]; exact putSel_upk 4 hb_ rfl rfl rfl), Q_HO243, fun h0_ => absurd ((hon 3 (by kernel_rfl)).symm.trans h0_) (by decide), Q_HB, Q_HO246, Q_HA_HO246, Q_HI229_e3, Q_X4_⟩
            refine steps_cons ?_ ?_
            · rintro b a w' ⟨v245, adz_v245, m4_, ha, Q_HO243, Q_HI229, Q_HB, Q_HO246, Q_HA_HO246, Q_HI229_e3, Q_X4_⟩ hb_ hon hoff
              refine ⟨_, rfl, fun K hK => ?_⟩
              have e30 : a.tmps[30]? = some (.int .i64 (rd y244 t247)) := by rw [ha]; exact putSel_on (e := (5, 30, .int .i64 (rd y244 t247))) 3 rfl rfl (hon 5 (by kernel_rfl)) rfl
              replace ha := Aside0.mk ha
              have HO243 := Aside0.mk Q_HO243
              have HB := Aside0.mk Q_HB
              have HO246 := Aside0.mk (Q_HO246 (hon 1 (by kernel_rfl)))
              have HA_HO246 := Aside0.mk (Q_HA_HO246 (hon 1 (by kernel_rfl)))
              have HI229 := Aside0.mk (Q_HI229_e3 (hon 3 (by kernel_rfl)))
              refine value_ (w1 := w') (v := .int .i64 (rd y244 t247)) (by rfl) rfl ?_ ?_
              · go_simp
                (try simp only [i64_w])
                try rfl
              refine hK.out _ _ ⟨v245, adz_v245, m4_, (by rw [ha.out]; exact putSel_upk 5 hb_ rfl rfl rfl), Q_HO243, fun h0_ => absurd ((hon 3 (by kernel_rfl)).symm.trans h0_) (by decide), Q_HB, Q_HO246, Q_HA_HO246, Q_HI229_e3, Q_X4_⟩
            exact steps_nil
          rintro b a w21 hall ⟨v245, adz_v245, m4_, ha, Q_HO243, Q_HI229, Q_HB, Q_HO246, Q_HA_HO246, Q_HI229_e3, Q_X4_⟩
          clear HB HI229 HO243
          have hb1_ := hall 1 (by kernel_rfl)
          have hb3_ := hall 3 (by kernel_rfl)
          have hb4_ := hall 4 (by kernel_rfl)
          have hb5_ := hall 5 (by kernel_rfl)
          have hb6_ := hall 6 (by kernel_rfl)
          have hb7_ := hall 7 (by kernel_rfl)
          subst ha
          obtain rfl := Q_X4_ hb4_
          simp only [putSel, hb1_, hb3_, hb4_, hb5_, hb6_, hb7_, if_true, Act.put, List.setIfInBounds_toArray, List.set_cons_zero, List.set_cons_succ]
          have HO243 := Aside0.mk Q_HO243
          clear Q_HO243
          clear Q_HI229
          have HB := Aside0.mk Q_HB
          clear Q_HB
          have HO246 := Aside0.mk (Q_HO246 hb1_)
          clear Q_HO246
          have HA_HO246 := Aside0.mk (Q_HA_HO246 hb1_)
          clear Q_HA_HO246
          have HI229 := Aside0.mk (Q_HI229_e3 hb3_)
          clear Q_HI229_e3
          clear hall hb1_ hb3_ hb4_ hb5_ hb6_ hb7_
          obtain ⟨co22, eo22⟩ := HA_HO246.out
          clear HA_HO246
          subst eo22
          try go_wp2
          go_ret2
          exact ⟨_, by first | rfl | (simp [errW_none, errW_some] <;> rfl) | (simp [*, errW_none, errW_some] <;> rfl), by (with_reducible repeat (first | apply Kd.R_alloc | apply Kd.R_drewN | apply Kd.R_drew)); exact Kd.R_mono HO243.out (fun _ hk => trivial), by repeat (first | (with_reducible first | exact HB.out | apply below_alloc | apply pw_below_drewN | apply below_drew1 | refine below_set ?_ (IsS116.ge HI229.out)) | exact HB.out)⟩
        · rw [if_neg c10] at H
          exact absurd H (by simp)
      · rw [if_neg c9] at H
        exact absurd H (by simp)
    · rw [if_neg c7] at H
      exact absurd H (by simp)
  · rw [if_neg c5] at H
    have c5b0 : (t235 == 0) = false := beq_eq_false_iff_ne.mpr c5
    have c5b1 : (t235 != 0) = true := bne_iff_ne.mpr c5
    by_cases c23 : t235 = 1
    · rw [if_pos c23] at H
      have c23b0 : (t235 == 1) = true := beq_iff_eq.mpr c23
      have c23b1 : (t235 != 1) = false := bne_eq_false_iff_eq.mpr c23
      clear c23
      replace H := Option.bind_eq_some_iff.mp H
      obtain ⟨⟨t251, t252, t253⟩, A240, H⟩ := H
      replace H : (if 0 ≤ (wrap64 (4096 + t251)) then (if (wrap64 (4096 + t251) : Int).toNat ≤ 35184372088832 then ((some (([0, 40, 380, 381] : List Int) : List Int)).bind fun y257 => ((spec_l01Cur_pick.f t226 t252 t253 4).bind fun bt260 => (if 0 ≤ bt260.1 then (if bt260.1 < (y257.length : Int) then (some ((List.replicate (wrap64 (4096 + t251) : Int).toNat 0), rd y257 bt260.1)) else (none)) else (none)))) else (none)) else (none)) = some (r1, r2) := H
      have A24 := Aside0.mk A240
      clear A240
      obtain ⟨ji25, hji25⟩ : ∃ j_ : Int, (wrap64 (4096 + t251)) = j_ := ⟨_, rfl⟩
      replace H : (if 0 ≤ (ji25) then (if (ji25 : Int).toNat ≤ 35184372088832 then ((some (([0, 40, 380, 381] : List Int) : List Int)).bind fun y257 => ((spec_l01Cur_pick.f t226 t252 t253 4).bind fun bt260 => (if 0 ≤ bt260.1 then (if bt260.1 < (y257.length : Int) then (some ((List.replicate (ji25 : Int).toNat 0), rd y257 bt260.1)) else (none)) else (none)))) else (none)) else (none)) = some (r1, r2) := by first | (rw [hji25] at H; exact H) | (simp only [hji25] at H ⊢; exact H)
      (try rw [hji25] at A2)
      (try rw [hji25] at A3)
      (try rw [hji25] at A4)
      (try rw [hji25] at A24)
      have hji25w : (IntKind.i64.wrap (4096 + t251)) = ji25 := (i64_w _).trans hji25
      by_cases c26 : 0 ≤ (ji25)
      · rw [if_pos c26] at H
        have c26b0 := eq_true c26
        have c26b1 : decide (0 ≤ (ji25)) = true := decide_eq_true c26
        clear c26
        by_cases c27 : (ji25 : Int).toNat ≤ 35184372088832
        · rw [if_pos c27] at H
          have c27b0 := eq_true c27
          have c27b1 : decide ((ji25 : Int).toNat ≤ 35184372088832) = true := decide_eq_true c27
          clear c27
          obtain ⟨y254, hy254⟩ : ∃ y_ : List Int, y_ = (List.replicate (ji25 : Int).toNat 0) := ⟨_, rfl⟩
          replace H : ((some (([0, 40, 380, 381] : List Int) : List Int)).bind fun y257 => ((spec_l01Cur_pick.f t226 t252 t253 4).bind fun bt260 => (if 0 ≤ bt260.1 then (if bt260.1 < (y257.length : Int) then (some (y254, rd y257 bt260.1)) else (none)) else (none)))) = some (r1, r2) := by first | (rw [hy254]; with_reducible exact H) | (have H2_ := (Option.bind_some _ _).symm.trans H; rw [hy254]; with_reducible exact H2_) | (have H2_ := (Option.bind_some _ _).symm.trans H; with_reducible exact H2_) | with_reducible exact H | (rw [hy254]; exact H) | exact H
          have Ny254 := Aside0.mk hy254
          clear hy254
          obtain ⟨y257, hy257⟩ : ∃ y_ : List Int, y_ = (([0, 40, 380, 381] : List Int)) := ⟨_, rfl⟩
          replace H : ((spec_l01Cur_pick.f t226 t252 t253 4).bind fun bt260 => (if 0 ≤ bt260.1 then (if bt260.1 < (y257.length : Int) then (some (y254, rd y257 bt260.1)) else (none)) else (none))) = some (r1, r2) := by first | (rw [hy257]; with_reducible exact H) | (have H2_ := (Option.bind_some _ _).symm.trans H; rw [hy257]; with_reducible exact H2_) | (have H2_ := (Option.bind_some _ _).symm.trans H; with_reducible exact H2_) | with_reducible exact H | (rw [hy257]; exact H) | exact H
          have Ny257 := Aside0.mk hy257
          clear hy257
          replace H := Option.bind_eq_some_iff.mp H
          obtain ⟨⟨t260, t261, t262⟩, A280, H⟩ := H
          replace H : (if 0 ≤ t260 then (if t260 < (y257.length : Int) then (some (y254, rd y257 t260)) else (none)) else (none)) = some (r1, r2) := H
          have A28 := Aside0.mk A280
          clear A280
          by_cases c29 : 0 ≤ t260
          · rw [if_pos c29] at H
            have c29b0 : decide (0 ≤ t260) = true := decide_eq_true c29
            clear c29
            by_cases c30 : t260 < (y257.length : Int)
            · rw [if_pos c30] at H
              have c30b0 : decide (t260 < (y257.length : Int)) = true := decide_eq_true c30
              clear c30
              simp only [Option.some.injEq, Prod.mk.injEq] at H
              obtain ⟨rfl, rfl⟩ := H
              go_enter Try.func43, Try.ntmps43
              try go_wp2_with (first | ((with_reducible refine gate_callee (f := 78) rfl ?_); refine goesL_ (some 7) rfl rfl Try.func78 (by kernel_rfl) rfl #[.slice A0 l0.length c0] rfl (by (try simp only [List.map_toArray, List.map_cons, List.map_nil]); first | done | rfl | (simp only [List.length_drop, List.length_take]; rfl)) ?_; (with_reducible refine (spec_l01Open.calls _ _ l0 t226 t227 t228 w _ ?side1 ?side2 ?side3 A2.out).mono ?_); (case side1 => repeat (first | (with_reducible first | exact HB.out | apply below_alloc | apply pw_below_drewN | apply below_drew1) | exact HB.out)); (case side2 => exact HR0.out); (case side3 => exact HC0.out); rintro e w31 ⟨g229, rfl, hi, hb, hb2⟩; refine ⟨_, rfl, ?_⟩; have n0_ := Aside0.mk (hb); have n1_ := Aside0.mk (hi); clear HB; have HB := n0_; have HI229 := n1_; clear n0_ n1_; (try clear hb); (try clear hb2); (try clear hk); (try clear hi)) | ((with_reducible refine gate_callee (f := 80) rfl ?_); refine goesL_ (some 9) rfl rfl Try.func80 (by kernel_rfl) rfl #[.pointer (some ⟨g229, 0, none⟩)] rfl (by (try simp only [List.map_toArray, List.map_cons, List.map_nil]); first | done | rfl | (simp only [List.length_drop, List.length_take]; rfl)) ?_; (with_reducible refine (spec_l10DrawNums.calls k g229 t226 t227 t228 t230 t233 t234 w _ ?side1 ?side2 A3.out).mono ?_); (case side1 => repeat (first | (with_reducible first | exact HI229.out | apply IsS116.alloc | apply IsS116.drewN | apply IsS116.drew | apply IsS116.set_1 | apply IsS116.set_2) | exact HI229.out)); (case side2 => repeat (first | (with_reducible first | exact HB.out | apply below_alloc | apply pw_below_drewN | apply below_drew1 | refine below_set ?_ (IsS116.ge HI229.out)) | exact HB.out)); rintro e w32 ⟨v231, rfl, ho0, hi, hb, hk⟩; refine ⟨_, rfl, ?_⟩; have n0_ := Aside0.mk (Kd.R_lower ho0 (below_size (by repeat (first | (with_reducible first | exact HB.out | apply below_alloc | apply pw_below_drewN | apply below_drew1 | refine below_set ?_ (IsS116.ge HI229.out)) | exact HB.out)))); have n1_ := Aside0.mk (hb); have n2_ := Aside0.mk (hi); clear HB; clear HI229; have HO232 := n0_; have HB := n1_; have HI229 := n2_; clear n0_ n1_ n2_; (try clear hb); (try clear hb2); (try clear hk); (try clear hi); (try clear ho0)) | ((with_reducible refine gate_callee (f := 81) rfl ?_); refine goesL_ (some 11) rfl rfl Try.func81 (by kernel_rfl) rfl #[.pointer (some ⟨g229, 0, none⟩), .int .i64 14] rfl (by (try simp only [List.map_toArray, List.map_cons, List.map_nil]); first | done | rfl | (simp only [List.length_drop, List.length_take]; rfl)) ?_; (with_reducible refine (spec_l01Cur_pick.calls g229 t226 t233 t234 14 t235 t236 t237 w _ ?side1 ?side2 A4.out).mono ?_); (case side1 => repeat (first | (with_reducible first | exact HI229.out | apply IsS116.alloc | apply IsS116.drewN | apply IsS116.drew | apply IsS116.set_1 | apply IsS116.set_2) | exact HI229.out)); (case side2 => repeat (first | (with_reducible first | exact HB.out | apply below_alloc | apply pw_below_drewN | apply below_drew1 | refine below_set ?_ (IsS116.ge HI229.out)) | exact HB.out)); rintro e w33 ⟨rfl, hi, hb, hk⟩; refine ⟨_, rfl, ?_⟩; have n0_ := Aside0.mk (Kd.R_mono (Kd.R_keep (IsS116.apart (show IsS116 w _ g229 t226 t233 t234 from by repeat (first | (with_reducible first | exact HI229.out | apply IsS116.alloc | apply IsS116.drewN | apply IsS116.drew | apply IsS116.set_1 | apply IsS116.set_2) | exact HI229.out)) (by (with_reducible repeat (first | apply Kd.R_alloc | apply Kd.R_drewN | apply Kd.R_drew)); exact HO232.out) (by decide)) hk (fun _ h => h.2)) (fun _ h => h.1)); have n1_ := Aside0.mk (hb); have n2_ := Aside0.mk (hi); clear HO232; clear HB; clear HI229; have HO232 := n0_; have HB := n1_; have HI229 := n2_; clear n0_ n1_ n2_; (try clear hb); (try clear hb2); (try clear hk); (try clear hi)) | ((with_reducible refine gate_callee (f := 81) rfl ?_); refine goesL_ (some 22) rfl rfl Try.func81 (by kernel_rfl) rfl #[.pointer (some ⟨g229, 0, none⟩), .int .i64 2] rfl (by (try simp only [List.map_toArray, List.map_cons, List.map_nil]); first | done | rfl | (simp only [List.length_drop, List.length_take]; rfl)) ?_; (with_reducible refine (spec_l01Cur_pick.calls g229 t226 t236 t237 2 t251 t252 t253 w _ ?side1 ?side2 A24.out).mono ?_); (case side1 => repeat (first | (with_reducible first | exact HI229.out | apply IsS116.alloc | apply IsS116.drewN | apply IsS116.drew | apply IsS116.set_1 | apply IsS116.set_2) | exact HI229.out)); (case side2 => repeat (first | (with_reducible first | exact HB.out | apply below_alloc | apply pw_below_drewN | apply below_drew1 | refine below_set ?_ (IsS116.ge HI229.out)) | exact HB.out)); rintro e w34 ⟨rfl, hi, hb, hk⟩; refine ⟨_, rfl, ?_⟩; have n0_ := Aside0.mk (Kd.R_mono (Kd.R_keep (IsS116.apart (show IsS116 w _ g229 t226 t236 t237 from by repeat (first | (with_reducible first | exact HI229.out | apply IsS116.alloc | apply IsS116.drewN | apply IsS116.drew | apply IsS116.set_1 | apply IsS116.set_2) | exact HI229.out)) (by (with_reducible repeat (first | apply Kd.R_alloc | apply Kd.R_drewN | apply Kd.R_drew)); exact HO232.out) (by decide)) hk (fun _ h => h.2)) (fun _ h => h.1)); have n1_ := Aside0.mk (hb); have n2_ := Aside0.mk (hi); clear HO232; clear HB; clear HI229; have HO232 := n0_; have HB := n1_; have HI229 := n2_; clear n0_ n1_ n2_; (try clear hb); (try clear hb2); (try clear hk); (try clear hi)) | ((with_reducible refine gate_dst (N := 24) rfl ?_); refine Kd.R_make (Kd.int .i64) _ 3 rfl (N := 24) rfl 34 _ _ rfl ji25 rfl rfl Try.underlying34 (.int .i64 0) 8 info3 rfl (by decide) (by omega) 0 (ok := fun _ => True) (okp := fun _ => True) rfl (fun _ hk => hk) trivial (of_decide_eq_true (by first | (with_reducible assumption) | assumption)) (Nat.le_trans (Nat.mul_le_mul_right _ (of_decide_eq_true (by first | (with_reducible assumption) | assumption) : ji25.toNat ≤ 35184372088832)) (by omega)) (Below.refl _ _) (Nat.le_refl _) ?_; intro v255 w35 ho36 hb hg_ hnew_; clear hg_ hnew_; (first | rw [← Ny254.out] at ho36 | (simp only [Int.reduceToNat] at ho36; rw [← Ny254.out] at ho36)); have n0_ := Aside0.mk (Kd.R_elder' (by (with_reducible repeat (first | apply Kd.R_alloc | apply Kd.R_drewN | apply Kd.R_drew)); exact HO232.out) (Kd.R_base ho36) hb); have n1_ := Aside0.mk (Kd.R_lower (Kd.R_new' ho36 (Kd.R_lt (by (with_reducible repeat (first | apply Kd.R_alloc | apply Kd.R_drewN | apply Kd.R_drew)); exact HO232.out))) (below_size (by repeat (first | (with_reducible first | exact HB.out | apply below_alloc | apply pw_below_drewN | apply below_drew1 | refine below_set ?_ (IsS116.ge HI229.out)) | exact HB.out)))); have n2_ := Aside0.mk (IsS116.below (by repeat (first | (with_reducible first | exact HI229.out | apply IsS116.alloc | apply IsS116.drewN | apply IsS116.drew | apply IsS116.set_1 | apply IsS116.set_2) | exact HI229.out)) hb); have n3_ := Aside0.mk (below_step (by repeat (first | (with_reducible first | exact HB.out | apply below_alloc | apply pw_below_drewN | apply below_drew1 | refine below_set ?_ (IsS116.ge HI229.out)) | exact HB.out)) hb); clear HO232; clear HI229; clear HB; have HO232 := n0_; have HO256 := n1_; have HI229 := n2_; have HB := n3_; clear n0_ n1_ n2_ n3_; clear hb ho36))
              have pi263 : (0 ≤ (t260 : Int)) = True := eq_true (of_decide_eq_true (by first | (with_reducible assumption) | assumption))
              have qi263 : (t260 < (y257.length : Int)) = True := eq_true (of_decide_eq_true (by first | (with_reducible assumption) | assumption))
              have n0_ := Aside0.mk (Kd.R_drew HO232.out)
              have n1_ := Aside0.mk (Kd.R_drew HO256.out)
              have n2_ := Aside0.mk (IsS116.drew HI229.out)
              have n3_ := Aside0.mk (below_drew1 HB.out)
              clear HO232
              clear HO256
              clear HI229
              clear HB
              have HO232 := n0_
              have HO256 := n1_
              have HI229 := n2_
              have HB := n3_
              clear n0_ n1_ n2_ n3_
              refine start_ (n := 8) (S := fun w' => True) (ds := []) #[false, false, false, false, false, false, false, false] (by kernel_rfl) rfl rfl trivial (fun hHeld => ?_); refine with_tabW spec_DrawListBins.tab8 spec_DrawListBins.bits8 (fun HT_ HW_ => ?_)
              generalize w35.drew = w37 at HO232 HO256 HI229 HB hHeld ⊢
              refine pure_ (i := 0) (N := some 25) (v := ?_) (a' := ?_) #[true, false, false, false, false, false, false, false] rfl rfl (any_of HT_.out (by kernel_rfl)) (fun _ _ _ h => h) (Or.inl ⟨by rfl, ?_⟩) ?_ ?_
              rotate_left
              · intro w'
                go_simp
                with_reducible rfl
              rotate_left
              · simp only [Act.put, List.setIfInBounds_toArray, List.set_cons_zero, List.set_cons_succ, i64_w, i32_w]
                rfl
              refine pure_ (i := 2) (N := some 27) (v := ?_) (a' := ?_) #[true, false, true, false, false, false, false, false] rfl rfl (any_of HT_.out (by kernel_rfl)) (fun _ _ _ h => h) (Or.inl ⟨by rfl, ?_⟩) ?_ ?_
              rotate_left
              · intro w'
                go_simp
                with_reducible rfl
              rotate_left
              · simp only [Act.put, List.setIfInBounds_toArray, List.set_cons_zero, List.set_cons_succ, i64_w, i32_w]
                rfl
              refine inv_at [1, 3, 4, 5, 6, 7] (fun a0_ b a w' => ∃ (v258 : Value) (adz_v258 : Addr) (m4_ : Value), a = putSel a0_ b [(1, 26, v258), (3, 28, .int .i64 t260), (4, 29, m4_), (5, 30, .int .i64 (rd y257 t260)), (6, 2, v255), (7, 3, .int .i64 (rd y257 t260))] ∧ (Kd.R (Kd.int .i64) 3 w' w.heap.size (fun k_ => some k_ ≠ (v255 : Value).ownBlock) v231 t230) ∧ (Kd.R (Kd.int .i64) 3 w' w.heap.size (fun k_ => some k_ ≠ (v231 : Value).ownBlock) v255 y254) ∧ (b 3 = false → IsS116 w w' g229 t226 t252 t253) ∧ (Below w.heap.size w w') ∧ (b 1 = true → Kd.R (Kd.int .i64) 3 w' w.heap.size (fun k_ => some k_ ≠ (v231 : Value).ownBlock ∧ some k_ ≠ (v255 : Value).ownBlock) v258 y257) ∧ (b 1 = true → ∃ c_, (v258 : Value) = .slice (some adz_v258) y257.length c_) ∧ (b 3 = true → IsS116 w w' g229 t226 t261 t262) ∧ (b 4 = true → (m4_ : Value) = .pointer (some (adz_v258.add (t260).toNat)))) HT_.out HW_.out (by kernel_rfl) (by kernel_rfl) ?_ ?_ ?_
              · exact ⟨.bool false, ⟨0, 0, none⟩, .bool false, by simp only [putSel, Bool.false_eq_true, if_false], (by first | exact HO232.out | exact Kd.R_mono HO232.out (fun _ hk => by first | exact ⟨hk.1.2, hk.2⟩ | exact ⟨hk.1, hk.2⟩ | exact hk.2 | exact hk.1 | exact hk | exact hk.1.2 | exact hk.1.1 | exact hk.2.1 | exact hk.2.2 | exact ⟨trivial, hk⟩ | exact ⟨trivial, hk.2⟩ | exact ⟨trivial, hk.1⟩ | trivial)), (by first | exact HO256.out | exact Kd.R_mono HO256.out (fun _ hk => by first | exact ⟨hk.1.2, hk.2⟩ | exact ⟨hk.1, hk.2⟩ | exact hk.2 | exact hk.1 | exact hk | exact hk.1.2 | exact hk.1.1 | exact hk.2.1 | exact hk.2.2 | exact ⟨trivial, hk⟩ | exact ⟨trivial, hk.2⟩ | exact ⟨trivial, hk.1⟩ | trivial)), fun _ => HI229.out, HB.out, fun h_ => absurd h_ (by decide), fun h_ => absurd h_ (by decide), fun h_ => absurd h_ (by decide), fun h_ => absurd h_ (by decide)⟩
              · skip
                clear HB HI229 HO232 HO256
                refine steps_cons ?_ ?_
                · rintro b a w' ⟨v258, adz_v258, m4_, ha, Q_HO232, Q_HO256, Q_HI229, Q_HB, Q_HO259, Q_HA_HO259, Q_HI229_e3, Q_X4_⟩ hb_ hon hoff
                  refine ⟨_, rfl, fun K hK => ?_⟩
                  replace ha := Aside0.mk ha
                  have HO232 := Aside0.mk Q_HO232
                  have HO256 := Aside0.mk Q_HO256
                  have HB := Aside0.mk Q_HB
                  refine Kd.R_lit_step (Kd.int .i64) _ 3 ?hg (N := 26) ?hd (xs := ([0, 40, 380, 381] : List Int)) (inner := [.int .i64 0, .int .i64 40, .int .i64 380, .int .i64 381]) (ok := fun _ => True) (okp := fun _ => True) ?hr ?hp (fun _ hk => hk) trivial (Below.refl _ _) (Nat.le_refl _) (by simp) ?_; (case hd => rfl); (case hg => rfl); (case hr => first | (go_simp; done) | (go_simp; rfl)); (case hp => exact (Reps.one (show Kd.M (Kd.int .i64) _ _ _ 0 [.int .i64 0] from rfl) (Reps.one (show Kd.M (Kd.int .i64) _ _ _ 40 [.int .i64 40] from rfl) (Reps.one (show Kd.M (Kd.int .i64) _ _ _ 380 [.int .i64 380] from rfl) (Reps.one (show Kd.M (Kd.int .i64) _ _ _ 381 [.int .i64 381] from rfl) (Reps.none _ _))))))
                  intro v258 w38 ho39 hb hg_ hnew_
                  clear hg_ hnew_
                  (first | rw [← Ny257.out] at ho39 | (simp only [Int.reduceToNat] at ho39; rw [← Ny257.out] at ho39))
                  have n0_ := Aside0.mk (Kd.R_elder' (by (with_reducible repeat (first | apply Kd.R_alloc | apply Kd.R_drewN | apply Kd.R_drew)); exact HO232.out) (Kd.R_base ho39) hb)
                  have n1_ := Aside0.mk (Kd.R_elder' (by (with_reducible repeat (first | apply Kd.R_alloc | apply Kd.R_drewN | apply Kd.R_drew)); exact HO256.out) (Kd.R_base ho39) hb)
                  have n2_ := Aside0.mk (Kd.R_lower (Kd.R_new' (Kd.R_new' ho39 (Kd.R_lt (by (with_reducible repeat (first | apply Kd.R_alloc | apply Kd.R_drewN | apply Kd.R_drew)); exact HO232.out))) (Kd.R_lt (by (with_reducible repeat (first | apply Kd.R_alloc | apply Kd.R_drewN | apply Kd.R_drew)); exact HO256.out))) (below_size (by repeat (first | (with_reducible first | exact HB.out | apply below_alloc | apply pw_below_drewN | apply below_drew1) | exact HB.out))))
                  have n4_ := Aside0.mk (below_step (by repeat (first | (with_reducible first | exact HB.out | apply below_alloc | apply pw_below_drewN | apply below_drew1) | exact HB.out)) hb)
                  have z_HI229 := fun (h0_ : b 3 = false) => (show IsS116 w w38 g229 t226 t252 t253 from by first | exact (IsS116.below (by repeat (first | (with_reducible first | exact (Q_HI229 h0_) | apply IsS116.alloc | apply IsS116.drewN | apply IsS116.drew | apply IsS116.set_1 | apply IsS116.set_2) | exact (Q_HI229 h0_))) hb))
                  have z_HI229_e3 := fun (h0_ : b 3 = true) => (show IsS116 w w38 g229 t226 t261 t262 from by first | exact (IsS116.below (by repeat (first | (with_reducible first | exact (Q_HI229_e3 h0_) | apply IsS116.alloc | apply IsS116.drewN | apply IsS116.drew | apply IsS116.set_1 | apply IsS116.set_2) | exact (Q_HI229_e3 h0_))) hb))
                  clear HO232
                  clear HO256
                  clear HB
                  have HO232 := n0_
                  have HO256 := n1_
                  have HO259 := n2_
                  have HB := n4_
                  clear n0_ n1_ n2_ n4_
                  clear hb ho39
                  obtain ⟨Ao40, co40, eo40⟩ := Kd.R_slice HO259.out
                  subst eo40
                  obtain ⟨ado40, fo40, _⟩ := Kd.at_int (Kd.R_reads' HO259.out).2.2 0 (by decide) (by rw [Ny257.out]; simp)
                  cases fo40
                  refine hK.out _ _ ⟨.slice (some ado40) y257.length co40, ado40, m4_, (by rw [ha.out]; exact putSel_upk 0 hb_ rfl rfl rfl), (by (with_reducible repeat (first | apply Kd.R_alloc | apply Kd.R_drewN | apply Kd.R_drew)); exact Kd.R_mono HO232.out (fun _ hk => by first | exact ⟨hk.1.2, hk.2⟩ | exact ⟨hk.1, hk.2⟩ | exact hk.2 | exact hk.1 | exact hk | exact hk.1.2 | exact hk.1.1 | exact hk.2.1 | exact hk.2.2 | exact ⟨trivial, hk⟩ | exact ⟨trivial, hk.2⟩ | exact ⟨trivial, hk.1⟩ | trivial)), (by (with_reducible repeat (first | apply Kd.R_alloc | apply Kd.R_drewN | apply Kd.R_drew)); exact Kd.R_mono HO256.out (fun _ hk => by first | exact ⟨hk.1.2, hk.2⟩ | exact ⟨hk.1, hk.2⟩ | exact hk.2 | exact hk.1 | exact hk | exact hk.1.2 | exact hk.1.1 | exact hk.2.1 | exact hk.2.2 | exact ⟨trivial, hk⟩ | exact ⟨trivial, hk.2⟩ | exact ⟨trivial, hk.1⟩ | trivial)), z_HI229, (by repeat (first | (with_reducible first | exact HB.out | apply below_alloc | apply pw_below_drewN | apply below_drew1) | exact HB.out)), fun _ => (by (with_reducible repeat (first | apply Kd.R_alloc | apply Kd.R_drewN | apply Kd.R_drew)); exact Kd.R_mono HO259.out (fun _ hk => by first | exact ⟨hk.1.2, hk.2⟩ | exact ⟨hk.1, hk.2⟩ | exact hk.2 | exact hk.1 | exact hk | exact hk.1.2 | exact hk.1.1 | exact hk.2.1 | exact hk.2.2 | exact ⟨trivial, hk⟩ | exact ⟨trivial, hk.2⟩ | exact ⟨trivial, hk.1⟩ | trivial)), fun _ => ⟨_, rfl⟩, z_HI229_e3, fun h0_ => absurd ((hoff 4 (by kernel_rfl)).symm.trans h0_) (by decide)⟩
                refine steps_cons ?_ ?_
                · rintro b a w' ⟨v258, adz_v258, m4_, ha, Q_HO232, Q_HO256, Q_HI229, Q_HB, Q_HO259, Q_HA_HO259, Q_HI229_e3, Q_X4_⟩ hb_ hon hoff
                  refine ⟨_, rfl, fun K hK => ?_⟩
                  have e27 : a.tmps[27]? = some (.pointer (some ⟨g229, 0, none⟩)) := by rw [ha]; exact (putSel_off rfl).trans rfl
                  replace ha := Aside0.mk ha
                  have HO232 := Aside0.mk Q_HO232
                  have HO256 := Aside0.mk Q_HO256
                  have HI229 := Aside0.mk (Q_HI229 hb_)
                  have HB := Aside0.mk Q_HB
                  refine goes_ Try.func81 (by kernel_rfl) rfl #[.pointer (some ⟨g229, 0, none⟩), .int .i64 4] (by rfl) rfl rfl (by first | (simp only [List.map_toArray, List.map_cons, List.map_nil, Act.eval, Array.getD_eq_getD_getElem?, Option.getD_some, e27]; done) | (simp only [List.map_toArray, List.map_cons, List.map_nil, Act.eval, Array.getD_eq_getD_getElem?, Option.getD_some, e27]; rfl)) ?_
                  with_reducible refine (spec_l01Cur_pick.calls g229 t226 t252 t253 4 t260 t261 t262 w _ ?side1 ?side2 A28.out).mono ?_
                  (case side1 => repeat (first | (with_reducible first | exact HI229.out | apply IsS116.alloc | apply IsS116.drewN | apply IsS116.drew | apply IsS116.set_1 | apply IsS116.set_2) | exact HI229.out))
                  (case side2 => repeat (first | (with_reducible first | exact HB.out | apply below_alloc | apply pw_below_drewN | apply below_drew1 | refine below_set ?_ (IsS116.ge HI229.out)) | exact HB.out))
                  rintro e w38 ⟨rfl, hi, hb, hk⟩
                  refine ⟨_, rfl, ?_⟩
                  have n0_ := Aside0.mk (Kd.R_mono (Kd.R_keep (IsS116.apart (show IsS116 w _ g229 t226 t252 t253 from by repeat (first | (with_reducible first | exact HI229.out | apply IsS116.alloc | apply IsS116.drewN | apply IsS116.drew | apply IsS116.set_1 | apply IsS116.set_2) | exact HI229.out)) (by (with_reducible repeat (first | apply Kd.R_alloc | apply Kd.R_drewN | apply Kd.R_drew)); exact HO232.out) (by decide)) hk (fun _ h => h.2)) (fun _ h => h.1))
                  have n1_ := Aside0.mk (Kd.R_mono (Kd.R_keep (IsS116.apart (show IsS116 w _ g229 t226 t252 t253 from by repeat (first | (with_reducible first | exact HI229.out | apply IsS116.alloc | apply IsS116.drewN | apply IsS116.drew | apply IsS116.set_1 | apply IsS116.set_2) | exact HI229.out)) (by (with_reducible repeat (first | apply Kd.R_alloc | apply Kd.R_drewN | apply Kd.R_drew)); exact HO256.out) (by decide)) hk (fun _ h => h.2)) (fun _ h => h.1))
                  have n2_ := Aside0.mk (hb)
                  have n3_ := Aside0.mk (hi)
                  have z_HO259 := fun (h0_ : b 1 = true) => (show Kd.R (Kd.int .i64) 3 w38 w.heap.size (fun k_ => some k_ ≠ (v231 : Value).ownBlock ∧ some k_ ≠ (v255 : Value).ownBlock) v258 y257 from by first | exact (Kd.R_mono (Kd.R_keep (IsS116.apart (show IsS116 w _ g229 t226 t252 t253 from by repeat (first | (with_reducible first | exact HI229.out | apply IsS116.alloc | apply IsS116.drewN | apply IsS116.drew | apply IsS116.set_1 | apply IsS116.set_2) | exact HI229.out)) (by (with_reducible repeat (first | apply Kd.R_alloc | apply Kd.R_drewN | apply Kd.R_drew)); exact (Q_HO259 h0_)) (by decide)) hk (fun _ h => h.2)) (fun _ h => h.1)) | exact Kd.R_mono (Kd.R_mono (Kd.R_keep (IsS116.apart (show IsS116 w _ g229 t226 t252 t253 from by repeat (first | (with_reducible first | exact HI229.out | apply IsS116.alloc | apply IsS116.drewN | apply IsS116.drew | apply IsS116.set_1 | apply IsS116.set_2) | exact HI229.out)) (by (with_reducible repeat (first | apply Kd.R_alloc | apply Kd.R_drewN | apply Kd.R_drew)); exact (Q_HO259 h0_)) (by decide)) hk (fun _ h => h.2)) (fun _ h => h.1)) (fun _ h_ => by first | trivial | exact h_ | exact h_.1))
                  clear HO232
                  clear HO256
                  clear HB
                  clear HI229
                  have HO232 := n0_
                  have HO256 := n1_
                  have HB := n2_
                  have HI229 := n3_
                  clear n0_ n1_ n2_ n3_
                  (try clear hb)
                  (try clear hb2)
                  (try clear hk)
                  (try clear hi)
                  refine hK.out _ _ ⟨v258, adz_v258, m4_, (by rw [ha.out]; exact putSel_upk 1 hb_ rfl rfl rfl), (by (with_reducible repeat (first | apply Kd.R_alloc | apply Kd.R_drewN | apply Kd.R_drew)); exact Kd.R_mono HO232.out (fun _ hk => by first | exact ⟨hk.1.2, hk.2⟩ | exact ⟨hk.1, hk.2⟩ | exact hk.2 | exact hk.1 | exact hk | exact hk.1.2 | exact hk.1.1 | exact hk.2.1 | exact hk.2.2 | exact ⟨trivial, hk⟩ | exact ⟨trivial, hk.2⟩ | exact ⟨trivial, hk.1⟩ | trivial)), (by (with_reducible repeat (first | apply Kd.R_alloc | apply Kd.R_drewN | apply Kd.R_drew)); exact Kd.R_mono HO256.out (fun _ hk => by first | exact ⟨hk.1.2, hk.2⟩ | exact ⟨hk.1, hk.2⟩ | exact hk.2 | exact hk.1 | exact hk | exact hk.1.2 | exact hk.1.1 | exact hk.2.1 | exact hk.2.2 | exact ⟨trivial, hk⟩ | exact ⟨trivial, hk.2⟩ | exact ⟨trivial, hk.1⟩ | trivial)), fun h0_ => absurd ((up_self b 3).symm.trans h0_) (by decide), (by repeat (first | (with_reducible first | exact HB.out | apply below_alloc | apply pw_below_drewN | apply below_drew1 | refine below_set ?_ (IsS116.ge HI229.out)) | exact HB.out)), z_HO259, Q_HA_HO259, fun _ => (by repeat (first | (with_reducible first | exact HI229.out | apply IsS116.alloc | apply IsS116.drewN | apply IsS116.drew | apply IsS116.set_1 | apply IsS116.set_2) | exact HI229.out)), fun h0_ => absurd ((hoff 4 (by kernel_rfl)).symm.trans h0_) (by decide)⟩
                refine steps_cons ?_ ?_
                · rintro b a w' ⟨v258, adz_v258, m4_, ha, Q_HO232, Q_HO256, Q_HI229, Q_HB, Q_HO259, Q_HA_HO259, Q_HI229_e3, Q_X4_⟩ hb_ hon hoff
                  refine ⟨_, rfl, fun K hK => ?_⟩
                  have e26 : a.tmps[26]? = some (v258) := by rw [ha]; exact putSel_on (e := (1, 26, v258)) 0 rfl rfl (hon 1 (by kernel_rfl)) rfl
                  have e28 : a.tmps[28]? = some (.int .i64 t260) := by rw [ha]; exact putSel_on (e := (3, 28, .int .i64 t260)) 1 rfl rfl (hon 3 (by kernel_rfl)) rfl
                  replace ha := Aside0.mk ha
                  have HO232 := Aside0.mk Q_HO232
                  have HO256 := Aside0.mk Q_HO256
                  have HB := Aside0.mk Q_HB
                  have HO259 := Aside0.mk (Q_HO259 (hon 1 (by kernel_rfl)))
                  have HA_HO259 := Aside0.mk (Q_HA_HO259 (hon 1 (by kernel_rfl)))
                  have HI229 := Aside0.mk (Q_HI229_e3 (hon 3 (by kernel_rfl)))
                  obtain ⟨c_, hv_⟩ := HA_HO259.out
                  rw [hv_] at e26
                  refine value_ (w1 := w') (v := .pointer (some (adz_v258.add (t260).toNat))) (by rfl) rfl ?_ ?_
                  · go_simp
                    (try simp only [i64_w])
                    try rfl
                  refine hK.out _ _ ⟨v258, adz_v258, (.pointer (some (adz_v258.add (t260).toNat))), (by rw [ha.out]; exact putSel_upk 2 hb_ rfl rfl rfl), Q_HO232, Q_HO256, fun h0_ => absurd ((hon 3 (by kernel_rfl)).symm.trans h0_) (by decide), Q_HB, Q_HO259, Q_HA_HO259, Q_HI229_e3, fun _ => rfl⟩
                refine steps_cons ?_ ?_
                · rintro b a w' ⟨v258, adz_v258, m4_, ha, Q_HO232, Q_HO256, Q_HI229, Q_HB, Q_HO259, Q_HA_HO259, Q_HI229_e3, Q_X4_⟩ hb_ hon hoff
                  refine ⟨_, rfl, fun K hK => ?_⟩
                  have e29 : a.tmps[29]? = some (m4_) := by rw [ha]; exact putSel_on (e := (4, 29, m4_)) 2 rfl rfl (hon 4 (by kernel_rfl)) rfl
                  rw [Q_X4_ (hon 4 (by kernel_rfl))] at e29
                  replace ha := Aside0.mk ha
                  have HO232 := Aside0.mk Q_HO232
                  have HO256 := Aside0.mk Q_HO256
                  have HB := Aside0.mk Q_HB
                  have HO259 := Aside0.mk (Q_HO259 (hon 1 (by kernel_rfl)))
                  have HA_HO259 := Aside0.mk (Q_HA_HO259 (hon 1 (by kernel_rfl)))
                  have HI229 := Aside0.mk (Q_HI229_e3 (hon 3 (by kernel_rfl)))
                  obtain ⟨c_, hv_⟩ := HA_HO259.out
                  have hF_ := HO259.out
                  rw [hv_] at hF_
                  obtain ⟨ad_, ea_, hx_⟩ := Kd.at_int (Kd.R_reads' hF_).2.2 t260 (of_eq_true pi263) (of_eq_true qi263)
                  cases ea_
                  refine value_ (w1 := w') (v := .int .i64 (rd y257 t260)) (by rfl) rfl ?_ ?_
                  · go_simp
                    (try simp only [i64_w])
                    try rfl
                  refine hK.out _ _ ⟨v258, adz_v258, m4_, (by rw [ha.out]; exact putSel_upk 3 hb_ rfl rfl rfl), Q_HO232, Q_HO256, fun h0_ => absurd ((hon 3 (by kernel_rfl)).symm.trans h0_) (by decide), Q_HB, Q_HO259, Q_HA_HO259, Q_HI229_e3, Q_X4_⟩
                refine steps_cons ?_ ?_
                · rintro b a w' ⟨v258, adz_v258, m4_, ha, Q_HO232, Q_HO256, Q_HI229, Q_HB, Q_HO259, Q_HA_HO259, Q_HI229_e3, Q_X4_⟩ hb_ hon hoff
                  refine ⟨_, rfl, fun K hK => ?_⟩
                  have e25 : a.tmps[25]? = some (v255) := by rw [ha]; exact (putSel_off rfl).trans rfl
                  replace ha := Aside0.mk ha
                  have HO232 := Aside0.mk Q_HO232
                  have HO256 := Aside0.mk Q_HO256
                  have HB := Aside0.mk Q_HB
                  have HI229 := Aside0.mk (Q_HI229_e3 (hon 3 (by kernel_rfl)))
                  refine value_ (w1 := w') (v := v255) (by rfl) rfl ?_ ?_
                  · go_simp
                    (try simp only [i64_w])
                    try rfl
                  refine hK.out _ _ ⟨v258, adz_v258, m4_, (by rw [ha.out]; exact putSel_upk 4 hb_ rfl rfl rfl), Q_HO232, Q_HO256, fun h0_ => absurd ((hon 3 (by kernel_rfl)).symm.trans h0_) (by decide), Q_HB, Q_HO259, Q_HA_HO259, Q_HI229_e3, Q_X4_⟩
                refine steps_cons ?_ ?_
                · rintro b a w' ⟨v258, adz_v258, m4_, ha, Q_HO232, Q_HO256, Q_HI229, Q_HB, Q_HO259, Q_HA_HO259, Q_HI229_e3, Q_X4_⟩ hb_ hon hoff
                  refine ⟨_, rfl, fun K hK => ?_⟩
                  have e30 : a.tmps[30]? = some (.int .i64 (rd y257 t260)) := by rw [ha]; exact putSel_on (e := (5, 30, .int .i64 (rd y257 t260))) 3 rfl rfl (hon 5 (by kernel_rfl)) rfl
                  replace ha := Aside0.mk ha
                  have HO232 := Aside0.mk Q_HO232
                  have HO256 := Aside0.mk Q_HO256
                  have HB := Aside0.mk Q_HB
                  have HO259 := Aside0.mk (Q_HO259 (hon 1 (by kernel_rfl)))
                  have HA_HO259 := Aside0.mk (Q_HA_HO259 (hon 1 (by kernel_rfl)))
                  have HI229 := Aside0.mk (Q_HI229_e3 (hon 3 (by kernel_rfl)))
                  refine value_ (w1 := w') (v := .int .i64 (rd y257 t260)) (by rfl) rfl ?_ ?_
                  · go_simp
                    (try simp only [i64_w])
                    try rfl
                  refine hK.out _ _ ⟨v258, adz_v258, m4_, (by rw [ha.out]; exact putSel_upk 5 hb_ rfl rfl rfl), Q_HO232, Q_HO256, fun h0_ => absurd ((hon 3 (by kernel_rfl)).symm.trans h0_) (by decide), Q_HB, Q_HO259, Q_HA_HO259, Q_HI229_e3, Q_X4_⟩
                exact steps_nil
              rintro b a w42 hall ⟨v258, adz_v258, m4_, ha, Q_HO232, Q_HO256, Q_HI229, Q_HB, Q_HO259, Q_HA_HO259, Q_HI229_e3, Q_X4_⟩
              clear HB HI229 HO232 HO256
              have hb1_ := hall 1 (by kernel_rfl)
              have hb3_ := hall 3 (by kernel_rfl)
              have hb4_ := hall 4 (by kernel_rfl)
              have hb5_ := hall 5 (by kernel_rfl)
              have hb6_ := hall 6 (by kernel_rfl)
              have hb7_ := hall 7 (by kernel_rfl)
              subst ha
              obtain rfl := Q_X4_ hb4_
              simp only [putSel, hb1_, hb3_, hb4_, hb5_, hb6_, hb7_, if_true, Act.put, List.setIfInBounds_toArray, List.set_cons_zero, List.set_cons_succ]
              have HO232 := Aside0.mk Q_HO232
              clear Q_HO232
              have HO256 := Aside0.mk Q_HO256
              clear Q_HO256
              clear Q_HI229
              have HB := Aside0.mk Q_HB
              clear Q_HB
              have HO259 := Aside0.mk (Q_HO259 hb1_)
              clear Q_HO259
              have HA_HO259 := Aside0.mk (Q_HA_HO259 hb1_)
              clear Q_HA_HO259
              have HI229 := Aside0.mk (Q_HI229_e3 hb3_)
              clear Q_HI229_e3
              clear hall hb1_ hb3_ hb4_ hb5_ hb6_ hb7_
              obtain ⟨co43, eo43⟩ := HA_HO259.out
              clear HA_HO259
              subst eo43
              try go_wp2
              go_ret2
              exact ⟨_, by first | rfl | (simp [errW_none, errW_some] <;> rfl) | (simp only [← hji25]; first | rfl | (simp [errW_none, errW_some] <;> rfl)) | (simp [*, errW_none, errW_some] <;> rfl), by (with_reducible repeat (first | apply Kd.R_alloc | apply Kd.R_drewN | apply Kd.R_drew)); exact Kd.R_mono HO256.out (fun _ hk => trivial), by repeat (first | (with_reducible first | exact HB.out | apply below_alloc | apply pw_below_drewN | apply below_drew1 | refine below_set ?_ (IsS116.ge HI229.out)) | exact HB.out)⟩
            · rw [if_neg c30] at H
              exact absurd H (by simp)
          · rw [if_neg c29] at H
            exact absurd H (by simp)
        · rw [if_neg c27] at H
          exact absurd H (by simp)
      · rw [if_neg c26] at H
        exact absurd H (by simp)
    · rw [if_neg c23] at H
      have c23b0 : (t235 == 1) = false := beq_eq_false_iff_ne.mpr c23
      have c23b1 : (t235 != 1) = true := bne_iff_ne.mpr c23
      obtain ⟨y264, hy264⟩ : ∃ y_ : List Int, y_ = (([0, 40, 380, 381] : List Int)) := ⟨_, rfl⟩
      replace H : ((spec_l01Cur_pick.f t226 t236 t237 4).bind fun bt267 => (if 0 ≤ bt267.1 then (if bt267.1 < (y264.length : Int) then (some (t230, rd y264 bt267.1)) else (none)) else (none))) = some (r1, r2) := by first | (rw [hy264]; with_reducible exact H) | (have H2_ := (Option.bind_some _ _).symm.trans H; rw [hy264]; with_reducible exact H2_) | (have H2_ := (Option.bind_some _ _).symm.trans H; with_reducible exact H2_) | with_reducible exact H | (rw [hy264]; exact H) | exact H
      have Ny264 := Aside0.mk hy264
      clear hy264
      replace H := Option.bind_eq_some_iff.mp H
      obtain ⟨⟨t267, t268, t269⟩, A440, H⟩ := H
      replace H : (if 0 ≤ t267 then (if t267 < (y264.length : Int) then (some (t230, rd y264 t267)) else (none)) else (none)) = some (r1, r2) := H
      have A44 := Aside0.mk A440
      clear A440
      by_cases c45 : 0 ≤ t267
      · rw [if_pos c45] at H
        have c45b0 : decide (0 ≤ t267) = true := decide_eq_true c45
        clear c45
        by_cases c46 : t267 < (y264.length : Int)
        · rw [if_pos c46] at H
          have c46b0 : decide (t267 < (y264.length : Int)) = true := decide_eq_true c46
          clear c46
          simp only [Option.some.injEq, Prod.mk.injEq] at H
          obtain ⟨rfl, rfl⟩ := H
          go_enter Try.func43, Try.ntmps43
          try go_wp2_with (first | ((with_reducible refine gate_callee (f := 78) rfl ?_); refine goesL_ (some 7) rfl rfl Try.func78 (by kernel_rfl) rfl #[.slice A0 l0.length c0] rfl (by (try simp only [List.map_toArray, List.map_cons, List.map_nil]); first | done | rfl | (simp only [List.length_drop, List.length_take]; rfl)) ?_; (with_reducible refine (spec_l01Open.calls _ _ l0 t226 t227 t228 w _ ?side1 ?side2 ?side3 A2.out).mono ?_); (case side1 => repeat (first | (with_reducible first | exact HB.out | apply below_alloc | apply pw_below_drewN | apply below_drew1) | exact HB.out)); (case side2 => exact HR0.out); (case side3 => exact HC0.out); rintro e w47 ⟨g229, rfl, hi, hb, hb2⟩; refine ⟨_, rfl, ?_⟩; have n0_ := Aside0.mk (hb); have n1_ := Aside0.mk (hi); clear HB; have HB := n0_; have HI229 := n1_; clear n0_ n1_; (try clear hb); (try clear hb2); (try clear hk); (try clear hi)) | ((with_reducible refine gate_callee (f := 80) rfl ?_); refine goesL_ (some 9) rfl rfl Try.func80 (by kernel_rfl) rfl #[.pointer (some ⟨g229, 0, none⟩)] rfl (by (try simp only [List.map_toArray, List.map_cons, List.map_nil]); first | done | rfl | (simp only [List.length_drop, List.length_take]; rfl)) ?_; (with_reducible refine (spec_l10DrawNums.calls k g229 t226 t227 t228 t230 t233 t234 w _ ?side1 ?side2 A3.out).mono ?_); (case side1 => repeat (first | (with_reducible first | exact HI229.out | apply IsS116.alloc | apply IsS116.drewN | apply IsS116.drew | apply IsS116.set_1 | apply IsS116.set_2) | exact HI229.out)); (case side2 => repeat (first | (with_reducible first | exact HB.out | apply below_alloc | apply pw_below_drewN | apply below_drew1 | refine below_set ?_ (IsS116.ge HI229.out)) | exact HB.out)); rintro e w48 ⟨v231, rfl, ho0, hi, hb, hk⟩; refine ⟨_, rfl, ?_⟩; have n0_ := Aside0.mk (Kd.R_lower ho0 (below_size (by repeat (first | (with_reducible first | exact HB.out | apply below_alloc | apply pw_below_drewN | apply below_drew1 | refine below_set ?_ (IsS116.ge HI229.out)) | exact HB.out)))); have n1_ := Aside0.mk (hb); have n2_ := Aside0.mk (hi); clear HB; clear HI229; have HO232 := n0_; have HB := n1_; have HI229 := n2_; clear n0_ n1_ n2_; (try clear hb); (try clear hb2); (try clear hk); (try clear hi); (try clear ho0)) | ((with_reducible refine gate_callee (f := 81) rfl ?_); refine goesL_ (some 11) rfl rfl Try.func81 (by kernel_rfl) rfl #[.pointer (some ⟨g229, 0, none⟩), .int .i64 14] rfl (by (try simp only [List.map_toArray, List.map_cons, List.map_nil]); first | done | rfl | (simp only [List.length_drop, List.length_take]; rfl)) ?_; (with_reducible refine (spec_l01Cur_pick.calls g229 t226 t233 t234 14 t235 t236 t237 w _ ?side1 ?side2 A4.out).mono ?_); (case side1 => repeat (first | (with_reducible first | exact HI229.out | apply IsS116.alloc | apply IsS116.drewN | apply IsS116.drew | apply IsS116.set_1 | apply IsS116.set_2) | exact HI229.out)); (case side2 => repeat (first | (with_reducible first | exact HB.out | apply below_alloc | apply pw_below_drewN | apply below_drew1 | refine below_set ?_ (IsS116.ge HI229.out)) | exact HB.out)); rintro e w49 ⟨rfl, hi, hb, hk⟩; refine ⟨_, rfl, ?_⟩; have n0_ := Aside0.mk (Kd.R_mono (Kd.R_keep (IsS116.apart (show IsS116 w _ g229 t226 t233 t234 from by repeat (first | (with_reducible first | exact HI229.out | apply IsS116.alloc | apply IsS116.drewN | apply IsS116.drew | apply IsS116.set_1 | apply IsS116.set_2) | exact HI229.out)) (by (with_reducible repeat (first | apply Kd.R_alloc | apply Kd.R_drewN | apply Kd.R_drew)); exact HO232.out) (by decide)) hk (fun _ h => h.2)) (fun _ h => h.1)); have n1_ := Aside0.mk (hb); have n2_ := Aside0.mk (hi); clear HO232; clear HB; clear HI229; have HO232 := n0_; have HB := n1_; have HI229 := n2_; clear n0_ n1_ n2_; (try clear hb); (try clear hb2); (try clear hk); (try clear hi)))
          have pi270 : (0 ≤ (t267 : Int)) = True := eq_true (of_decide_eq_true (by first | (with_reducible assumption) | assumption))
          have qi270 : (t267 < (y264.length : Int)) = True := eq_true (of_decide_eq_true (by first | (with_reducible assumption) | assumption))
          have n0_ := Aside0.mk (Kd.R_drew HO232.out)
          have n1_ := Aside0.mk (IsS116.drew HI229.out)
          have n2_ := Aside0.mk (below_drew1 HB.out)
          clear HO232
          clear HI229
          clear HB
          have HO232 := n0_
          have HI229 := n1_
          have HB := n2_
          clear n0_ n1_ n2_
          refine start_ (n := 8) (S := fun w' => True) (ds := []) #[false, false, false, false, false, false, false, false] (by kernel_rfl) rfl rfl trivial (fun hHeld => ?_); refine with_tabW spec_DrawListBins.tab8 spec_DrawListBins.bits8 (fun HT_ HW_ => ?_)
          generalize w49.drew = w50 at HO232 HI229 HB hHeld ⊢
          refine pure_ (i := 0) (N := some 25) (v := ?_) (a' := ?_) #[true, false, false, false, false, false, false, false] rfl rfl (any_of HT_.out (by kernel_rfl)) (fun _ _ _ h => h) (Or.inl ⟨by rfl, ?_⟩) ?_ ?_
          rotate_left
          · intro w'
            go_simp
            with_reducible rfl
          rotate_left
          · simp only [Act.put, List.setIfInBounds_toArray, List.set_cons_zero, List.set_cons_succ, i64_w, i32_w]
            rfl
          refine pure_ (i := 2) (N := some 27) (v := ?_) (a' := ?_) #[true, false, true, false, false, false, false, false] rfl rfl (any_of HT_.out (by kernel_rfl)) (fun _ _ _ h => h) (Or.inl ⟨by rfl, ?_⟩) ?_ ?_
          rotate_left
          · intro w'
            go_simp
            with_reducible rfl
          rotate_left
          · simp only [Act.put, List.setIfInBounds_toArray, List.set_cons_zero, List.set_cons_succ, i64_w, i32_w]
            rfl
          refine inv_at [1, 3, 4, 5, 6, 7] (fun a0_ b a w' => ∃ (v265 : Value) (adz_v265 : Addr) (m4_ : Value), a = putSel a0_ b [(1, 26, v265), (3, 28, .int .i64 t267), (4, 29, m4_), (5, 30, .int .i64 (rd y264 t267)), (6, 2, v231), (7, 3, .int .i64 (rd y264 t267))] ∧ (Kd.R (Kd.int .i64) 3 w' w.heap.size (fun _ => True) v231 t230) ∧ (b 3 = false → IsS116 w w' g229 t226 t236 t237) ∧ (Below w.heap.size w w') ∧ (b 1 = true → Kd.R (Kd.int .i64) 3 w' w.heap.size (fun k_ => some k_ ≠ (v231 : Value).ownBlock) v265 y264) ∧ (b 1 = true → ∃ c_, (v265 : Value) = .slice (some adz_v265) y264.length c_) ∧ (b 3 = true → IsS116 w w' g229 t226 t268 t269) ∧ (b 4 = true → (m4_ : Value) = .pointer (some (adz_v265.add (t267).toNat)))) HT_.out HW_.out (by kernel_rfl) (by kernel_rfl) ?_ ?_ ?_
          · exact ⟨.bool false, ⟨0, 0, none⟩, .bool false, by simp only [putSel, Bool.false_eq_true, if_false], (by first | exact HO232.out | exact Kd.R_mono HO232.out (fun _ hk => by first | exact ⟨hk.1.2, hk.2⟩ | exact ⟨hk.1, hk.2⟩ | exact hk.2 | exact hk.1 | exact hk | exact hk.1.2 | exact hk.1.1 | exact hk.2.1 | exact hk.2.2 | exact ⟨trivial, hk⟩ | exact ⟨trivial, hk.2⟩ | exact ⟨trivial, hk.1⟩ | trivial)), fun _ => HI229.out, HB.out, fun h_ => absurd h_ (by decide), fun h_ => absurd h_ (by decide), fun h_ => absurd h_ (by decide), fun h_ => absurd h_ (by decide)⟩
          · skip
            clear HB HI229 HO232
            refine steps_cons ?_ ?_
            · rintro b a w' ⟨v265, adz_v265, m4_, ha, Q_HO232, Q_HI229, Q_HB, Q_HO266, Q_HA_HO266, Q_HI229_e3, Q_X4_⟩ hb_ hon hoff
              refine ⟨_, rfl, fun K hK => ?_⟩
              replace ha := Aside0.mk ha
              have HO232 := Aside0.mk Q_HO232
              have HB := Aside0.mk Q_HB
              refine Kd.R_lit_step (Kd.int .i64) _ 3 ?hg (N := 26) ?hd (xs := ([0, 40, 380, 381] : List Int)) (inner := [.int .i64 0, .int .i64 40, .int .i64 380, .int .i64 381]) (ok := fun _ => True) (okp := fun _ => True) ?hr ?hp (fun _ hk => hk) trivial (Below.refl _ _) (Nat.le_refl _) (by simp) ?_; (case hd => rfl); (case hg => rfl); (case hr => first | (go_simp; done) | (go_simp; rfl)); (case hp => exact (Reps.one (show Kd.M (Kd.int .i64) _ _ _ 0 [.int .i64 0] from rfl) (Reps.one (show Kd.M (Kd.int .i64) _ _ _ 40 [.int .i64 40] from rfl) (Reps.one (show Kd.M (Kd.int .i64) _ _ _ 380 [.int .i64 380] from rfl) (Reps.one (show Kd.M (Kd.int .i64) _ _ _ 381 [.int .i64 381] from rfl) (Reps.none _ _))))))
              intro v265 w51 ho52 hb hg_ hnew_
              clear hg_ hnew_
              (first | rw [← Ny264.out] at ho52 | (simp only [Int.reduceToNat] at ho52; rw [← Ny264.out] at ho52))
              have n0_ := Aside0.mk (Kd.R_elder' (by (with_reducible repeat (first | apply Kd.R_alloc | apply Kd.R_drewN | apply Kd.R_drew)); exact HO232.out) (Kd.R_base ho52) hb)
              have n1_ := Aside0.mk (Kd.R_lower (Kd.R_new' ho52 (Kd.R_lt (by (with_reducible repeat (first | apply Kd.R_alloc | apply Kd.R_drewN | apply Kd.R_drew)); exact HO232.out))) (below_size (by repeat (first | (with_reducible first | exact HB.out | apply below_alloc | apply pw_below_drewN | apply below_drew1) | exact HB.out))))
              have n3_ := Aside0.mk (below_step (by repeat (first | (with_reducible first | exact HB.out | apply below_alloc | apply pw_below_drewN | apply below_drew1) | exact HB.out)) hb)
              have z_HI229 := fun (h0_ : b 3 = false) => (show IsS116 w w51 g229 t226 t236 t237 from by first | exact (IsS116.below (by repeat (first | (with_reducible first | exact (Q_HI229 h0_) | apply IsS116.alloc | apply IsS116.drewN | apply IsS116.drew | apply IsS116.set_1 | apply IsS116.set_2) | exact (Q_HI229 h0_))) hb))
              have z_HI229_e3 := fun (h0_ : b 3 = true) => (show IsS116 w w51 g229 t226 t268 t269 from by first | exact (IsS116.below (by repeat (first | (with_reducible first | exact (Q_HI229_e3 h0_) | apply IsS116.alloc | apply IsS116.drewN | apply IsS116.drew | apply IsS116.set_1 | apply IsS116.set_2) | exact (Q_HI229_e3 h0_))) hb))
              clear HO232
              clear HB
              have HO232 := n0_
              have HO266 := n1_
              have HB := n3_
              clear n0_ n1_ n3_
              clear hb ho52
              obtain ⟨Ao53, co53, eo53⟩ := Kd.R_slice HO266.out
              subst eo53
              obtain ⟨ado53, fo53, _⟩ := Kd.at_int (Kd.R_reads' HO266.out).2.2 0 (by decide) (by rw [Ny264.out]; simp)
              cases fo53
              refine hK.out _ _ ⟨.slice (some ado53) y264.length co53, ado53, m4_, (by rw [ha.out]; exact putSel_upk 0 hb_ rfl rfl rfl), (by (with_reducible repeat (first | apply Kd.R_alloc | apply Kd.R_drewN | apply Kd.R_drew)); exact Kd.R_mono HO232.out (fun _ hk => by first | exact ⟨hk.1.2, hk.2⟩ | exact ⟨hk.1, hk.2⟩ | exact hk.2 | exact hk.1 | exact hk | exact hk.1.2 | exact hk.1.1 | exact hk.2.1 | exact hk.2.2 | exact ⟨trivial, hk⟩ | exact ⟨trivial, hk.2⟩ | exact ⟨trivial, hk.1⟩ | trivial)), z_HI229, (by repeat (first | (with_reducible first | exact HB.out | apply below_alloc | apply pw_below_drewN | apply below_drew1) | exact HB.out)), fun _ => (by (with_reducible repeat (first | apply Kd.R_alloc | apply Kd.R_drewN | apply Kd.R_drew)); exact Kd.R_mono HO266.out (fun _ hk => by first | exact ⟨hk.1.2, hk.2⟩ | exact ⟨hk.1, hk.2⟩ | exact hk.2 | exact hk.1 | exact hk | exact hk.1.2 | exact hk.1.1 | exact hk.2.1 | exact hk.2.2 | exact ⟨trivial, hk⟩ | exact ⟨trivial, hk.2⟩ | exact ⟨trivial, hk.1⟩ | trivial)), fun _ => ⟨_, rfl⟩, z_HI229_e3, fun h0_ => absurd ((hoff 4 (by kernel_rfl)).symm.trans h0_) (by decide)⟩
            refine steps_cons ?_ ?_
            · rintro b a w' ⟨v265, adz_v265, m4_, ha, Q_HO232, Q_HI229, Q_HB, Q_HO266, Q_HA_HO266, Q_HI229_e3, Q_X4_⟩ hb_ hon hoff
              refine ⟨_, rfl, fun K hK => ?_⟩
              have e27 : a.tmps[27]? = some (.pointer (some ⟨g229, 0, none⟩)) := by rw [ha]; exact (putSel_off rfl).trans rfl
              replace ha := Aside0.mk ha
              have HO232 := Aside0.mk Q_HO232
              have HI229 := Aside0.mk (Q_HI229 hb_)
              have HB := Aside0.mk Q_HB
              refine goes_ Try.func81 (by kernel_rfl) rfl #[.pointer (some ⟨g229, 0, none⟩), .int .i64 4] (by rfl) rfl rfl (by first | (simp only [List.map_toArray, List.map_cons, List.map_nil, Act.eval, Array.getD_eq_getD_getElem?, Option.getD_some, e27]; done) | (simp only [List.map_toArray, List.map_cons, List.map_nil, Act.eval, Array.getD_eq_getD_getElem?, Option.getD_some, e27]; rfl)) ?_
              with_reducible refine (spec_l01Cur_pick.calls g229 t226 t236 t237 4 t267 t268 t269 w _ ?side1 ?side2 A44.out).mono ?_
              (case side1 => repeat (first | (with_reducible first | exact HI229.out | apply IsS116.alloc | apply IsS116.drewN | apply IsS116.drew | apply IsS116.set_1 | apply IsS116.set_2) | exact HI229.out))
              (case side2 => repeat (first | (with_reducible first | exact HB.out | apply below_alloc | apply pw_below_drewN | apply below_drew1 | refine below_set ?_ (IsS116.ge HI229.out)) | exact HB.out))
              rintro e w51 ⟨rfl, hi, hb, hk⟩
              refine ⟨_, rfl, ?_⟩
              have n0_ := Aside0.mk (Kd.R_mono (Kd.R_keep (IsS116.apart (show IsS116 w _ g229 t226 t236 t237 from by repeat (first | (with_reducible first | exact HI229.out | apply IsS116.alloc | apply IsS116.drewN | apply IsS116.drew | apply IsS116.set_1 | apply IsS116.set_2) | exact HI229.out)) (by (with_reducible repeat (first | apply Kd.R_alloc | apply Kd.R_drewN | apply Kd.R_drew)); exact HO232.out) (by decide)) hk (fun _ h => h.2)) (fun _ h => h.1))
              have n1_ := Aside0.mk (hb)
              have n2_ := Aside0.mk (hi)
              have z_HO266 := fun (h0_ : b 1 = true) => (show Kd.R (Kd.int .i64) 3 w51 w.heap.size (fun k_ => some k_ ≠ (v231 : Value).ownBlock) v265 y264 from by first | exact (Kd.R_mono (Kd.R_keep (IsS116.apart (show IsS116 w _ g229 t226 t236 t237 from by repeat (first | (with_reducible first | exact HI229.out | apply IsS116.alloc | apply IsS116.drewN | apply IsS116.drew | apply IsS116.set_1 | apply IsS116.set_2) | exact HI229.out)) (by (with_reducible repeat (first | apply Kd.R_alloc | apply Kd.R_drewN | apply Kd.R_drew)); exact (Q_HO266 h0_)) (by decide)) hk (fun _ h => h.2)) (fun _ h => h.1)) | exact Kd.R_mono (Kd.R_mono (Kd.R_keep (IsS116.apart (show IsS116 w _ g229 t226 t236 t237 from by repeat (first | (with_reducible first | exact HI229.out | apply IsS116.alloc | apply IsS116.drewN | apply IsS116.drew | apply IsS116.set_1 | apply IsS116.set_2) | exact HI229.out)) (by (with_reducible repeat (first | apply Kd.R_alloc | apply Kd.R_drewN | apply Kd.R_drew)); exact (Q_HO266 h0_)) (by decide)) hk (fun _ h => h.2)) (fun _ h => h.1)) (fun _ h_ => by first | trivial | exact h_ | exact h_.1))
              clear HO232
              clear HB
              clear HI229
              have HO232 := n0_
              have HB := n1_
              have HI229 := n2_
              clear n0_ n1_ n2_
              (try clear hb)
              (try clear hb2)
              (try clear hk)
              (try clear hi)
              refine hK.out _ _ ⟨v265, adz_v265, m4_, (by rw [ha.out]; exact putSel_upk 1 hb_ rfl rfl rfl), (by (with_reducible repeat (first | apply Kd.R_alloc | apply Kd.R_drewN | apply Kd.R_drew)); exact HO232.out), fun h0_ => absurd ((up_self b 3).symm.trans h0_) (by decide), (by repeat (first | (with_reducible first | exact HB.out | apply below_alloc | apply pw_below_drewN | apply below_drew1 | refine below_set ?_ (IsS116.ge HI229.out)) | exact HB.out)), z_HO266, Q_HA_HO266, fun _ => (by repeat (first | (with_reducible first | exact HI229.out | apply IsS116.alloc | apply IsS116.drewN | apply IsS116.drew | apply IsS116.set_1 | apply IsS116.set_2) | exact HI229.out)), fun h0_ => absurd ((hoff 4 (by kernel_rfl)).symm.trans h0_) (by decide)⟩
            refine steps_cons ?_ ?_
            · rintro b a w' ⟨v265, adz_v265, m4_, ha, Q_HO232, Q_HI229, Q_HB, Q_HO266, Q_HA_HO266, Q_HI229_e3, Q_X4_⟩ hb_ hon hoff
              refine ⟨_, rfl, fun K hK => ?_⟩
              have e26 : a.tmps[26]? = some (v265) := by rw [ha]; exact putSel_on (e := (1, 26, v265)) 0 rfl rfl (hon 1 (by kernel_rfl)) rfl
              have e28 : a.tmps[28]? = some (.int .i64 t267) := by rw [ha]; exact putSel_on (e := (3, 28, .int .i64 t267)) 1 rfl rfl (hon 3 (by kernel_rfl)) rfl
              replace ha := Aside0.mk ha
              have HO232 := Aside0.mk Q_HO232
              have HB := Aside0.mk Q_HB
              have HO266 := Aside0.mk (Q_HO266 (hon 1 (by kernel_rfl)))
              have HA_HO266 := Aside0.mk (Q_HA_HO266 (hon 1 (by kernel_rfl)))
              have HI229 := Aside0.mk (Q_HI229_e3 (hon 3 (by kernel_rfl)))
              obtain ⟨c_, hv_⟩ := HA_HO266.out
              rw [hv_] at e26
              refine value_ (w1 := w') (v := .pointer (some (adz_v265.add (t267).toNat))) (by rfl) rfl ?_ ?_
              · go_simp
                (try simp only [i64_w])
                try rfl
              refine hK.out _ _ ⟨v265, adz_v265, (.pointer (some (adz_v265.add (t267).toNat))), (by rw [ha.out]; exact putSel_upk 2 hb_ rfl rfl rfl), Q_HO232, fun h0_ => absurd ((hon 3 (by kernel_rfl)).symm.trans h0_) (by decide), Q_HB, Q_HO266, Q_HA_HO266, Q_HI229_e3, fun _ => rfl⟩
            refine steps_cons ?_ ?_
            · rintro b a w' ⟨v265, adz_v265, m4_, ha, Q_HO232, Q_HI229, Q_HB, Q_HO266, Q_HA_HO266, Q_HI229_e3, Q_X4_⟩ hb_ hon hoff
              refine ⟨_, rfl, fun K hK => ?_⟩
              have e29 : a.tmps[29]? = some (m4_) := by rw [ha]; exact putSel_on (e := (4, 29, m4_)) 2 rfl rfl (hon 4 (by kernel_rfl)) rfl
              rw [Q_X4_ (hon 4 (by kernel_rfl))] at e29
              replace ha := Aside0.mk ha
              have HO232 := Aside0.mk Q_HO232
              have HB := Aside0.mk Q_HB
              have HO266 := Aside0.mk (Q_HO266 (hon 1 (by kernel_rfl)))
              have HA_HO266 := Aside0.mk (Q_HA_HO266 (hon 1 (by kernel_rfl)))
              have HI229 := Aside0.mk (Q_HI229_e3 (hon 3 (by kernel_rfl)))
              obtain ⟨c_, hv_⟩ := HA_HO266.out
              have hF_ := HO266.out
              rw [hv_] at hF_
              obtain ⟨ad_, ea_, hx_⟩ := Kd.at_int (Kd.R_reads' hF_).2.2 t267 (of_eq_true pi270) (of_eq_true qi270)
              cases ea_
              refine value_ (w1 := w') (v := .int .i64 (rd y264 t267)) (by rfl) rfl ?_ ?_
              · go_simp
                (try simp only [i64_w])
                try rfl
              refine hK.out _ _ ⟨v265, adz_v265, m4_, (by rw [ha.out]; exact putSel_upk 3 hb_ rfl rfl rfl), Q_HO232, fun h0_ => absurd ((hon 3 (by kernel_rfl)).symm.trans h0_) (by decide), Q_HB, Q_HO266, Q_HA_HO266, Q_HI229_e3, Q_X4_⟩
            refine steps_cons ?_ ?_
            · rintro b a w' ⟨v265, adz_v265, m4_, ha, Q_HO232, Q_HI229, Q_HB, Q_HO266, Q_HA_HO266, Q_HI229_e3, Q_X4_⟩ hb_ hon hoff
              refine ⟨_, rfl, fun K hK => ?_⟩
              have e25 : a.tmps[25]? = some (v231) := by rw [ha]; exact (putSel_off rfl).trans rfl
              replace ha := Aside0.mk ha
              have HO232 := Aside0.mk Q_HO232
              have HB := Aside0.mk Q_HB
              have HI229 := Aside0.mk (Q_HI229_e3 (hon 3 (by kernel_rfl)))
              refine value_ (w1 := w') (v := v231) (by rfl) rfl ?_ ?_
              · go_simp
                (try simp only [i64_w])
                try rfl
              refine hK.out _ _ ⟨v265, adz_v265, m4_, (by rw [ha.out]; exact putSel_upk 4 hb_ rfl rfl rfl), Q_HO232, fun h0_ => absurd ((hon 3 (by kernel_rfl)).symm.trans h0_) (by decide), Q_HB, Q_HO266, Q_HA_HO266, Q_HI229_e3, Q_X4_⟩
            refine steps_cons ?_ ?_
            · rintro b a w' ⟨v265, adz_v265, m4_, ha, Q_HO232, Q_HI229, Q_HB, Q_HO266, Q_HA_HO266, Q_HI229_e3, Q_X4_⟩ hb_ hon hoff
              refine ⟨_, rfl, fun K hK => ?_⟩
              have e30 : a.tmps[30]? = some (.int .i64 (rd y264 t267)) := by rw [ha]; exact putSel_on (e := (5, 30, .int .i64 (rd y264 t267))) 3 rfl rfl (hon 5 (by kernel_rfl)) rfl
              replace ha := Aside0.mk ha
              have HO232 := Aside0.mk Q_HO232
              have HB := Aside0.mk Q_HB
              have HO266 := Aside0.mk (Q_HO266 (hon 1 (by kernel_rfl)))
              have HA_HO266 := Aside0.mk (Q_HA_HO266 (hon 1 (by kernel_rfl)))
              have HI229 := Aside0.mk (Q_HI229_e3 (hon 3 (by kernel_rfl)))
              refine value_ (w1 := w') (v := .int .i64 (rd y264 t267)) (by rfl) rfl ?_ ?_
              · go_simp
                (try simp only [i64_w])
                try rfl
              refine hK.out _ _ ⟨v265, adz_v265, m4_, (by rw [ha.out]; exact putSel_upk 5 hb_ rfl rfl rfl), Q_HO232, fun h0_ => absurd ((hon 3 (by kernel_rfl)).symm.trans h0_) (by decide), Q_HB, Q_HO266, Q_HA_HO266, Q_HI229_e3, Q_X4_⟩
            exact steps_nil
          rintro b a w55 hall ⟨v265, adz_v265, m4_, ha, Q_HO232, Q_HI229, Q_HB, Q_HO266, Q_HA_HO266, Q_HI229_e3, Q_X4_⟩
          clear HB HI229 HO232
          have hb1_ := hall 1 (by kernel_rfl)
          have hb3_ := hall 3 (by kernel_rfl)
          have hb4_ := hall 4 (by kernel_rfl)
          have hb5_ := hall 5 (by kernel_rfl)
          have hb6_ := hall 6 (by kernel_rfl)
          have hb7_ := hall 7 (by kernel_rfl)
          subst ha
          obtain rfl := Q_X4_ hb4_
          simp only [putSel, hb1_, hb3_, hb4_, hb5_, hb6_, hb7_, if_true, Act.put, List.setIfInBounds_toArray, List.set_cons_zero, List.set_cons_succ]
          have HO232 := Aside0.mk Q_HO232
          clear Q_HO232
          clear Q_HI229
          have HB := Aside0.mk Q_HB
          clear Q_HB
          have HO266 := Aside0.mk (Q_HO266 hb1_)
          clear Q_HO266
          have HA_HO266 := Aside0.mk (Q_HA_HO266 hb1_)
          clear Q_HA_HO266
          have HI229 := Aside0.mk (Q_HI229_e3 hb3_)
          clear Q_HI229_e3
          clear hall hb1_ hb3_ hb4_ hb5_ hb6_ hb7_
          obtain ⟨co56, eo56⟩ := HA_HO266.out
          clear HA_HO266
          subst eo56
          try go_wp2
          go_ret2
          exact ⟨_, by first | rfl | (simp [errW_none, errW_some] <;> rfl) | (simp [*, errW_none, errW_some] <;> rfl), by (with_reducible repeat (first | apply Kd.R_alloc | apply Kd.R_drewN | apply Kd.R_drew)); exact Kd.R_mono HO232.out (fun _ hk => trivial), by repeat (first | (with_reducible first | exact HB.out | apply below_alloc | apply pw_below_drewN | apply below_drew1 | refine below_set ?_ (IsS116.ge HI229.out)) | exact HB.out)⟩
        · rw [if_neg c46] at H
          exact absurd H (by simp)
      · rw [if_neg c45] at H
        exact absurd H (by simp)

theorem drawListBinsP (code : List Int) (hc : CodeOk code) : EvP (fun k => spec_DrawListBins.f k code) (fun r => r.1.length ≤ 10000) := by
  unfold spec_DrawListBins.f
  refine evpBind (open_f code hc) (fun o ho => ?_)
  rw [ho.1]
  refine evpBind (drawNumsP 0 hc ho.2 (by omega)) (fun l hl => evpBind (pickP _ hc hl.2 (by omega)) (fun b hb => evpIf (fun _ => ?_) (fun _ => evpIf (fun _ => ?_) (fun _ => ?_))))
  · refine evpBind (oddP _ hc hb.2 (by omega)) (fun e he => evpPos (by have := hl.1; omega) (evpBind (evpNow rfl rfl) (fun y hy => ?_)))
    subst hy
    exact evpBind (pickP _ hc he.2 (by omega)) (fun g hg => evpPos hg.1.1 (evpPos (by simp; omega) (evpNow rfl (by have := hl.1; simp; omega))))
  · refine evpBind (pickP _ hc hb.2 (by omega)) (fun e he => ?_)
    have h1 : 0 ≤ e.1 ∧ e.1 ≤ 1 := by have := he.1; omega
    rw [w64 (show -9223372036854775808 ≤ 4096 + e.1 by omega) (by omega)]
    refine evpPos (by omega) (evpPos (by omega) (evpBind (evpNow rfl rfl) (fun y hy => ?_)))
    subst hy
    exact evpBind (pickP _ hc he.2 (by omega)) (fun g hg => evpPos hg.1.1 (evpPos (by simp; omega) (evpNow rfl (by simp; omega))))
  · refine evpBind (evpNow rfl rfl) (fun y hy => ?_)
    subst hy
    exact evpBind (pickP _ hc hb.2 (by omega)) (fun g hg => evpPos hg.1.1 (evpPos (by simp; omega) (evpNow rfl (by have := hl.1; simp only []; omega))))

end Go.Proofs.Ytdeheflbigggbaa.CM
