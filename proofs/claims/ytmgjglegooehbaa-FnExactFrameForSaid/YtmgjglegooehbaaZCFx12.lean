/- Functions that a law of this seat reaches: written by a program of this session (wip/xprint.py), and by hand. -/
import Derived.Test.YtmgjglegooehbaaZCFx0
import Derived.Test.YtmgjglegooehbaaZCFx1
import Derived.Test.YtmgjglegooehbaaZCFx5
import Derived.Test.YtmgjglegooehbaaZCFx8
import Derived.Test.YtmgjglegooehbaaZCFx9
import Derived.Test.YtmgjglegooehbaaZCFx10
import Derived.Test.YtmgjglegooehbaaZCFx11
namespace Go.Proofs.Ytmgjglegooehbaa.CF
open Go.RowKit Go.Proofs.Ytmgjglegooehbaa.B Go.Proofs.YtmgjglegooehbaaW.PrintWords Go.Proofs.YtmgjglegooehbaaW.PrintLast Go.Proofs.YtmgjglegooehbaaW.PrintMore
attribute [local go_sem] max2_int min2_int max_two min_two max_three min_three max_four min_four   -- for this text's walks alone
set_option linter.unusedVariables false
set_option linter.unusedSimpArgs false

theorem pure_FrameFor : laws_FnExactFrameFor.Pure := by
  intro p w hh l q m kk r c h _ _ _ hq _ _ _ _
  refine Ev.rounds (g := fun k => laws_FnExactFrameFor.f k p w hh l q m kk r c h) ?_
  unfold laws_FnExactFrameFor.f
  obtain ⟨s, hs, hs2⟩ := szPicture_f p w hh l hq.1 (fun x hx => (hq.2 x hx).1)
  refine evBind hs (evIf (fun _ => Ev.now _) (fun hc => ?_))
  obtain ⟨hl, hx⟩ := hs2 (by omega)
  have hlen := frameI_len p w hh l q m kk r c h
  have F1 := sFrameFor_f p w hh l q m kk r c h hl hx
  have F2 := iFrameFor_f p w hh l q m kk r c h hl hx
  have TP := toPicture_f p w hh l hl hx
  generalize frameI p w hh l q m kk r c h = R at hlen F1 F2
  obtain ⟨f0, f1, f2, f3, f4⟩ := R
  have EF := eqFrame_f f0 f1 f2 f3 f4 (by simp only [] at hlen; omega)
  have MF := markFrame_f f0 f1 f2 f3 f4 1 (by omega) (by simp only [] at hlen; omega)
  have HF := heldFrame_f f0 f1 f2 f3 1 f4.length (by omega) (by simp only [] at hlen; omega)
  have htot := tot_le l hx
  have hmul : l.length * 1048576 ≤ 1048576 * 1048576 := Nat.mul_le_mul_right _ hl
  obtain ⟨mk, hmk, hmk2⟩ := markPicture_f p w hh l 1 hl (by omega) (by omega)
  refine evBind TP (evBind (Ev.now _) (evBind F1 (evBind TP (evBind (Ev.now _) (evBind F2 (evBind EF (evPos rfl (evBind TP ?_))))))))
  refine evBind (eqPicture_f p w hh l (by omega) (fun x hm => by have := hx x hm; omega)) (evPos rfl (evBind hmk (evNeg (by omega) (evBind EF ?_))))
  refine Ev.step (fun k => by rw [laws_FnExactFrameFor.j0]) (evNeg (by simp) (evBind MF (evBind HF (evNeg (show ¬ (1 + 4 * (f4.length : Int) < 0) by omega) (evPos rfl ?_)))))
  refine evBind TP (evBind (Ev.now _) (evBind F2 (evBind EF (evPos rfl (evBind HF (evNeg (show ¬ (1 + 4 * (f4.length : Int) < 0) by omega) (evPos rfl (Ev.now _))))))))

end Go.Proofs.Ytmgjglegooehbaa.CF
