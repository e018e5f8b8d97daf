/- Functions that a law of this seat reaches: written by a program of this session (wip/xprint.py), and by hand. -/
import Derived.Test.YtimappilioaagaaCLx0
import Derived.Test.YtimappilioaagaaCLx1
import Derived.Test.YtimappilioaagaaCLx2
import Derived.Test.YtimappilioaagaaCLx4
import Derived.Test.YtimappilioaagaaCLx5
import Derived.Test.YtimappilioaagaaCLx6
namespace Go.Proofs.Ytimappilioaagaa.CL
open Go.RowKit Go.Proofs.Ytimappilioaagaa.B Go.Proofs.YtimappilioaagaaW.PrintWords Go.Proofs.YtimappilioaagaaW.PrintLast Go.Proofs.YtimappilioaagaaW.PrintMore
attribute [local go_sem] max2_int min2_int max_two min_two max_three min_three max_four min_four   -- for this text's walks alone
set_option linter.unusedVariables false
set_option linter.unusedSimpArgs false

theorem back8 {r g b y u v R B G : Int} (r0 : 0 ≤ r) (r1 : r ≤ 255) (g0 : 0 ≤ g) (g1 : g ≤ 255) (b0 : 0 ≤ b) (b1 : b ≤ 255) (hy : y = rnd (77 * r + 150 * g + 29 * b) 256)
    (hu : u = clipI (128 + rnd (144 * (b - y)) 256) 0 255) (hv : v = clipI (128 + rnd (183 * (r - y)) 256) 0 255) (hR : R = clipI (y + rnd (359 * (v - 128)) 256) 0 255) (hB : B = clipI (y + rnd (454 * (u - 128)) 256) 0 255)
    (hG : G = clipI (rnd (256 * y - 77 * R - 29 * B) 150) 0 255) : (-4 ≤ R - r ∧ R - r ≤ 4) ∧ (-4 ≤ G - g ∧ G - g ≤ 4) ∧ (-4 ≤ B - b ∧ B - b ≤ 4) := by
  unfold rnd at hy
  have hu' : u = 128 + rnd (144 * (b - y)) 256 := by rw [hu]; exact clip_in (by unfold rnd; omega) (by unfold rnd; omega)
  have hv' : v = 128 + rnd (183 * (r - y)) 256 := by rw [hv]; exact clip_in (by unfold rnd; omega) (by unfold rnd; omega)
  unfold rnd at hu' hv'
  clear hu hv
  have kR : -1 ≤ R - r ∧ R - r ≤ 1 := by
    rw [hR]
    unfold clipI rnd
    split
    · omega
    · split <;> omega
  have kB : -1 ≤ B - b ∧ B - b ≤ 1 := by
    rw [hB]
    unfold clipI rnd
    split
    · omega
    · split <;> omega
  clear hR hB hu' hv'
  refine ⟨by omega, ?_, by omega⟩
  rw [hG]
  unfold clipI rnd
  split
  · omega
  · split <;> omega
theorem grey_y (c : Int) : rnd (77 * c + 150 * c + 29 * c) 256 = c := by unfold rnd; omega
theorem rd3 (a b c : Int) : rd [a, b, c] 0 = a ∧ rd [a, b, c] 1 = b ∧ rd [a, b, c] 2 = c := ⟨rfl, rfl, rfl⟩
theorem pixB_mk {p a b c : Int} (hp : p = 8 ∨ p = 12) (ha : 0 ≤ a ∧ a ≤ topP p) (hb : 0 ≤ b ∧ b ≤ topP p) (hc : 0 ≤ c ∧ c ≤ topP p) : pixB p [a, b, c] = true := by
  simp only [pixB, allR, List.all_cons, List.all_nil, Bool.and_eq_true, decide_eq_true_eq, inR_iff]
  exact ⟨hp, rfl, ha, hb, hc, trivial⟩
theorem toYcc_pix {p : Int} {l : List Int} (h : pixB p l = true) : pixB p (toYccL p l) = true := by
  have ht := topP_pos p
  exact pixB_mk (pixB_vals h).1 (toY_range h) (clipI_range (by omega)) (clipI_range (by omega))
theorem grey_back {p c : Int} (hp : p = 8 ∨ p = 12) (h : 0 ≤ c ∧ c ≤ topP p) : toYccI p [c, c, c] = [c, halfP p, halfP p] ∧ fromYccI p [c, halfP p, halfP p] = [c, c, c] := by
  have ht := topP_pos p
  have hh := halfP_pos p
  have hht : halfP p ≤ topP p := by unfold halfP topP; split <;> omega
  have h1 : pixB p [c, c, c] = true := pixB_mk hp h h h
  have h2 : pixB p [c, halfP p, halfP p] = true := pixB_mk hp h ⟨by omega, hht⟩ ⟨by omega, hht⟩
  have hy : toY [c, c, c] = c := grey_y c
  have z : ∀ k : Int, rnd (k * (c - c)) 256 = 0 := fun k => by rw [Int.sub_self, Int.mul_zero]; rfl
  have z2 : ∀ k : Int, rnd (k * (halfP p - halfP p)) 256 = 0 := fun k => by rw [Int.sub_self, Int.mul_zero]; rfl
  refine ⟨?_, ?_⟩
  · unfold toYccI toYccL
    rw [if_pos h1, hy]
    have e : rd [c, c, c] 2 = c := rfl
    have e0 : rd [c, c, c] 0 = c := rfl
    rw [e, e0, z, z, Int.add_zero, clip_in (by omega) hht]
  · unfold fromYccI fromYccL
    rw [if_pos h2]
    have e0 : rd [c, halfP p, halfP p] 0 = c := rfl
    have e1 : rd [c, halfP p, halfP p] 1 = halfP p := rfl
    have e2 : rd [c, halfP p, halfP p] 2 = halfP p := rfl
    have fR : frR p [c, halfP p, halfP p] = c := by unfold frR; rw [e0, e2, z2, Int.add_zero, clip_in h.1 h.2]
    have fB : frB p [c, halfP p, halfP p] = c := by unfold frB; rw [e0, e1, z2, Int.add_zero, clip_in h.1 h.2]
    have fG : frG p [c, halfP p, halfP p] = c := by
      unfold frG
      rw [e0, fR, fB, show rnd (256 * c - 77 * c - 29 * c) 150 = c from by unfold rnd; omega, clip_in h.1 h.2]
    rw [fR, fB, fG]
theorem close8 {l : List Int} (h : pixB 8 l = true) (i : Int) (h0 : 0 ≤ i) (h1 : i < 3) : -4 ≤ rd (fromYccL 8 (toYccL 8 l)) i - rd l i ∧ rd (fromYccL 8 (toYccL 8 l)) i - rd l i ≤ 4 := by
  obtain ⟨_, _, hv⟩ := pixB_vals h
  have t : topP 8 = 255 := rfl
  have a0 := hv 0 (by omega) (by omega)
  have a1 := hv 1 (by omega) (by omega)
  have a2 := hv 2 (by omega) (by omega)
  rw [t] at a0 a1 a2
  have := back8 (r := rd l 0) (g := rd l 1) (b := rd l 2) (y := toY l) (u := rd (toYccL 8 l) 1) (v := rd (toYccL 8 l) 2) (R := frR 8 (toYccL 8 l)) (B := frB 8 (toYccL 8 l)) (G := frG 8 (toYccL 8 l)) a0.1 a0.2 a1.1 a1.2 a2.1 a2.2 rfl rfl rfl rfl rfl rfl
  obtain rfl | rfl | rfl : i = 0 ∨ i = 1 ∨ i = 2 := by omega
  · exact this.1
  · exact this.2.1
  · exact this.2.2
theorem colour_tail (p : Int) (l : List Int) (h : pixB p l = true) : Ev (fun k => laws_FnColourBack.j2 k p l (fromYccL p (toYccL p l)) 3 false) true ∧ Ev (fun k => laws_FnColourBack.j2 k p l (fromYccL p (toYccL p l)) 0 false) true := by
  obtain ⟨hp, h3, hv⟩ := pixB_vals h
  have a0 := hv 0 (by omega) (by omega)
  obtain ⟨g1, g2⟩ := grey_back hp a0
  have hm : (3 : Nat) ≤ maxLen := by unfold maxLen; omega
  have main : ∀ i : Int, Ev (fun k => laws_FnColourBack.j2 k p l (fromYccL p (toYccL p l)) i false) true := fun i => by
    refine Ev.step (fun k => by rw [laws_FnColourBack.j2]) (evNeg (by simp) (evPos (by omega) (evBind (Ev.now _) ?_)))
    refine evBind (iToYcc_f p _ hm) ?_
    rw [g1]
    refine evPos (by rfl) (evPos (by simp) (evPos (by rfl) (evPos (by simp) (evPos (by simp) (evPos (by rfl) ?_)))))
    refine evBind (iFromYcc_f p _ hm) ?_
    rw [g2]
    exact evBind (sameInts_f _ (by simp)) (Ev.now _)
  exact ⟨main 3, main 0⟩
theorem colour_l0 (l : List Int) (h : pixB 8 l = true) : ∀ (d i : Nat), i + d = 3 → Ev (fun k => laws_FnColourBack.l0 k 8 l (fromYccL 8 (toYccL 8 l)) i) true := by
  obtain ⟨hp, h3, hv⟩ := pixB_vals h
  have h3' : (fromYccL 8 (toYccL 8 l)).length = 3 := rfl
  intro d
  induction d with
  | zero =>
    intro i hi
    obtain rfl : i = 3 := by omega
    refine Ev.step (fun k => by rw [laws_FnColourBack.l0]) ?_
    exact evNeg (by omega) (colour_tail 8 l h).1
  | succ d ih =>
    intro i hi
    have hc := close8 h (i : Int) (by omega) (by omega)
    refine Ev.step (fun k => by rw [laws_FnColourBack.l0]) ?_
    refine evPos (by omega) ?_
    refine Ev.step (fun k => by rw [laws_FnColourBack.j2]) ?_
    refine evPos rfl (evPos (by omega) (evPos (by omega) (evPos (by omega) ?_)))
    rw [w64 (by omega) (by omega)]
    refine evBind (evConst (labs_f (by omega) (by omega))) (evNeg ?_ ?_)
    · split <;> omega
    · rw [show (i : Int) + 1 = ((i + 1 : Nat) : Int) from by omega, w64n (by omega)]
      exact ih (i + 1) (by omega)
theorem pure_ColourBack : laws_FnColourBack.Pure := by
  intro code hq
  refine Ev.rounds (g := fun k => laws_FnColourBack.f k code) ?_
  unfold laws_FnColourBack.f
  refine evBind (evConst (big_f code)) (evIf (fun _ => Ev.now _) (fun hb => ?_))
  have hc : CodeOk code := ⟨by have := of_decide_eq_false (Bool.eq_false_iff.2 hb); omega, fun y hy => wf8 (hq.2 y hy)⟩
  obtain ⟨⟨p, l⟩, hd, hl⟩ := drawToYcc_p code hc
  have hl : l.length ≤ 3 := hl
  have hm : l.length ≤ maxLen := by unfold maxLen; omega
  have hm3 : (3 : Nat) ≤ maxLen := by unfold maxLen; omega
  have hlen : (toYccI p l).length ≤ 3 := by unfold toYccI; split <;> simp [toYccL]
  refine evBind hd (evBind (iToYcc_f p l hm) (evBind (evConst (show spec_ToYcc.f p l = some (toYccI p l) from rfl)) (evBind (sameInts_f _ (by omega)) (evPos rfl ?_))))
  by_cases h : pixB p l = true
  · obtain ⟨hp, h3, hv⟩ := pixB_vals h
    have e : toYccI p l = toYccL p l := by unfold toYccI; rw [if_pos h]
    have e2 : fromYccI p (toYccL p l) = fromYccL p (toYccL p l) := by unfold fromYccI; rw [if_pos (toYcc_pix h)]
    rw [e]
    refine evPos rfl (evBind (iFromYcc_f p _ hm3) (evBind (evConst (show spec_FromYcc.f p _ = some (fromYccI p _) from rfl)) ?_))
    rw [e2]
    refine evBind (sameInts_f _ (by simp [fromYccL])) (evPos rfl (Ev.step (fun k => by rw [laws_FnColourBack.j0]) (evNeg (by simp [fromYccL]) ?_)))
    rcases hp with rfl | rfl
    · exact colour_l0 l h 3 0 (by omega)
    · refine Ev.step (fun k => by rw [laws_FnColourBack.l0]) ?_
      exact evPos (by omega) (colour_tail 12 l h).2
  · have e : toYccI p l = [] := by unfold toYccI; rw [if_neg h]
    rw [e]
    refine evNeg (by simp) (evBind (evConst (show spec_ToYcc.f p l = some (toYccI p l) from rfl)) ?_)
    rw [e]
    exact Ev.now _

end Go.Proofs.Ytimappilioaagaa.CL
