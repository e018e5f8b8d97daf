/- Functions that a law of this seat reaches: written by a program of this session (wip/xprint.py), and by hand. -/
import Derived.Test.YthajjjpblkhmmaaCRx0
import Derived.Test.YthajjjpblkhmmaaCRx1
import Derived.Test.YthajjjpblkhmmaaCRx5
import Derived.Test.YthajjjpblkhmmaaCRx7
import Derived.Test.YthajjjpblkhmmaaCRx8
namespace Go.Proofs.Ythajjjpblkhmmaa.CR
open Go.RowKit Go.Proofs.Ythajjjpblkhmmaa.B Go.Proofs.YthajjjpblkhmmaaW.PrintWords Go.Proofs.YthajjjpblkhmmaaW.PrintLast Go.Proofs.YthajjjpblkhmmaaW.PrintMore
attribute [local go_sem] max2_int min2_int max_two min_two max_three min_three max_four min_four   -- for this text's walks alone
set_option linter.unusedVariables false
set_option linter.unusedSimpArgs false

theorem pure_PutRefine : laws_FnExactPutRefine.Pure := by
  intro l0 c f t h l l2 hq hqc _ _ _ _ hq2
  refine Ev.rounds (g := fun k => laws_FnExactPutRefine.f k l0 c f t h l l2) ?_
  unfold laws_FnExactPutRefine.f
  refine evIf (fun _ => Ev.now _) (fun hc => evIf (fun _ => Ev.now _) (fun hc2 => ?_))
  have hcl := hqc.1
  unfold maxLen at hcl
  refine evBind (evConst (szScan_f c f t h l 1048576 (by omega) (by omega) hcl)) (evIf (fun _ => Ev.now _) (fun hs => ?_))
  have hl : l0.length ≤ 1048576 := by omega
  have hl2 : l2.length ≤ 1048576 := by omega
  have hc2 : c.length ≤ 1048576 := by
    by_cases h : 1048576 - (c.length : Int) < 0
    · rw [if_pos h] at hs; omega
    · omega
  have hr := prI_length l0 f t h l l2
  refine evBind (toIntS_f l0 hl) (evBind (toScan_f c f t h l hc2) (evBind (toIntS_f l2 hl2) (evBind (sPutRefine_f l0 c f t h l l2 hl2) (evBind (toIntS_f l0 hl) (evBind (toScan_f c f t h l hc2) (evBind (toIntS_f l2 hl2) (evBind (iPutRefine_f l0 c f t h l l2 hl2) ?_)))))))
  refine evBind (eqIntS_f _ (by omega)) (evPos rfl (evBind (toIntS_f l0 hl) (evBind (eqIntS_f l0 (by omega)) (evPos rfl ?_))))
  refine evBind (toScan_f c f t h l hc2) (evBind (eqScan_f c f t h l (by omega)) (evPos rfl (evBind (toIntS_f l2 hl2) (evBind (eqIntS_f l2 (by omega)) (evPos rfl ?_)))))
  refine evBind (markIntS_f l0 1 (by omega) (by omega)) (evBind (markScan_f c f t h l _ (by simp only []; omega) (by simp only []; omega)) (evBind (markIntS_f l2 _ (by simp only []; omega) (by simp only []; omega)) (evNeg (by simp only []; omega) (evBind (eqIntS_f _ (by omega)) ?_))))
  refine Ev.step (fun k => by rw [laws_FnExactPutRefine.j0]) (evNeg (by simp) ?_)
  refine evBind (markIntS_f _ 1 (by omega) (by omega)) (evBind (heldIntS_f 1 _ (by omega) (by omega)) (evNeg (by omega) (evPos rfl ?_)))
  refine evBind (toIntS_f l0 hl) (evBind (toScan_f c f t h l hc2) (evBind (toIntS_f l2 hl2) (evBind (iPutRefine_f l0 c f t h l l2 hl2) ?_)))
  refine evBind (eqIntS_f _ (by omega)) (evPos rfl (evBind (heldIntS_f 1 _ (by omega) (by omega)) (evNeg (by omega) (evPos rfl (Ev.now _)))))

end Go.Proofs.Ythajjjpblkhmmaa.CR
