/-
  PlaneOk of the program answers as PlaneOk of the reference does, for all arguments: the plain law.
-/
import Derived.Test.YtdakegolcmcgmaaLemPlane
namespace Go.Proofs.Ytdakegolcmcgmaa.Pure
open Go.RowKit Go.Proofs.Ytdakegolcmcgmaa.B Go.Proofs.Ytdakegolcmcgmaa.CA Go.Proofs.Ytdakegolcmcgmaa.L Go.Proofs.YtdakegolcmcgmaaW.PrintWords
theorem FnExactPlaneOk : laws_FnExactPlaneOk.Pure := by
  intro l0 a1 a2 hq _ _
  refine Ev.rounds (g := fun k => laws_FnExactPlaneOk.f k l0 a1 a2) ?_
  unfold laws_FnExactPlaneOk.f
  refine evIf (fun _ => Ev.now _) (fun hc => ?_)
  have hl : l0.length ≤ 1048576 := by omega
  have hm : l0.length ≤ maxLen := hq.1
  refine evBind (toIntS_f l0 hl) (evBind (sPlaneOk_f l0 a1 a2 hm) (evBind (toIntS_f l0 hl) (evBind (iPlaneOk_f l0 a1 a2 hm) ?_)))
  refine evNeg (by simp) (evBind (toIntS_f l0 hl) (evBind (eqIntS_f l0 hl) (evPos rfl (Ev.now _))))
end Go.Proofs.Ytdakegolcmcgmaa.Pure
