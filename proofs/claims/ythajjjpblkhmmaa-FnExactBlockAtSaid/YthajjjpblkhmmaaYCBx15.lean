/- Functions that a law of this seat reaches: written by a program of this session (wip/xprint.py), and by hand. -/
import Derived.Test.YthajjjpblkhmmaaYMac
import Derived.Test.YthajjjpblkhmmaaYCBx0
import Derived.Test.YthajjjpblkhmmaaYCBx1
import Derived.Test.YthajjjpblkhmmaaYCBx2
import Derived.Test.YthajjjpblkhmmaaYCBx3
import Derived.Test.YthajjjpblkhmmaaYCBx4
import Derived.Test.YthajjjpblkhmmaaYCBx5
import Derived.Test.YthajjjpblkhmmaaYCBx9
import Derived.Test.YthajjjpblkhmmaaYCBx13
import Derived.Test.YthajjjpblkhmmaaYCBx14
namespace Go.Proofs.Ythajjjpblkhmmaa.CB
open Go.RowKit Go.Proofs.Ythajjjpblkhmmaa.B Go.Proofs.YthajjjpblkhmmaaW.PrintWords Go.Proofs.YthajjjpblkhmmaaW.PrintLast Go.Proofs.YthajjjpblkhmmaaW.PrintMore
attribute [local go_sem] max2_int min2_int max_two min_two max_three min_three max_four min_four   -- for this text's walks alone
set_option linter.unusedVariables false
set_option linter.unusedSimpArgs false

theorem rdSS_midP (pre : List (List Int)) (x : List Int) (l : List (List Int)) : rd_L3 (pre ++ x :: l) (pre.length : Int) = x := by
  rw [rdSS_nat (by simp)]
  simp
theorem rdSSS_midP (pre : List (List (List Int))) (x : List (List Int)) (l : List (List (List Int))) : rd_L4 (pre ++ x :: l) (pre.length : Int) = x := by
  rw [rdSSS_nat (by simp)]
  simp
theorem markSS_e : ∀ (l pre : List (List Int)) (a : Int), pre.length + l.length ≤ 1048576 → 0 ≤ a → a + tot l ≤ 4611686018427387904 → ∃ m, Ev (fun k => laws_markIntSS.l0 k (pre ++ l) a pre.length) (a + tot l, m)
  | [], pre, a, hl, h0, h1 => by
    refine ⟨pre ++ [], Ev.step (fun k => by rw [laws_markIntSS.l0]) (evNeg (by simp) ?_)⟩
    simp only [tot, List.map_nil, List.sum_nil]
    rw [show a + ((0 : Nat) : Int) = a from by simp]
    exact Ev.now _
  | x :: l, pre, a, hl, h0, h1 => by
    rw [tot_cons] at h1 ⊢
    rw [List.length_cons] at hl
    obtain ⟨m, key⟩ := markSS_e l (pre ++ [countL a x.length]) (a + x.length) (by rw [List.length_append]; simp only [List.length_cons, List.length_nil]; omega) (by omega) (by omega)
    refine ⟨m, Ev.step (fun k => by rw [laws_markIntSS.l0]) (evPos (by rw [List.length_append, List.length_cons]; omega) (evPos (by omega) ?_))⟩
    rw [rdSS_midP]
    refine evBind (markIntS_f x a h0 (by omega)) ?_
    simp only []
    rw [show (pre.length : Int) + 1 = ((pre.length + 1 : Nat) : Int) from by omega, w64n (by omega), Int.toNat_natCast, List.set_append_right _ _ (Nat.le_refl _), Nat.sub_self, List.set_cons_zero]
    rw [List.length_append, List.append_assoc] at key
    rw [show a + ((x.length + tot l : Nat) : Int) = a + x.length + (tot l : Int) from by omega]
    exact key
def tot3P (l : List (List (List Int))) : Nat := (l.map tot).sum
theorem tot3P_cons (x : List (List Int)) (l : List (List (List Int))) : tot3P (x :: l) = tot x + tot3P l := by simp [tot3P]
theorem markSSS_e : ∀ (l pre : List (List (List Int))) (a : Int), pre.length + l.length ≤ 1048576 → (∀ x ∈ l, x.length ≤ 1048576) → 0 ≤ a → a + tot3P l ≤ 4611686018427387904 → ∃ m, Ev (fun k => laws_markIntSSS.l0 k (pre ++ l) a pre.length) (a + tot3P l, m)
  | [], pre, a, hl, _, h0, h1 => by
    refine ⟨pre ++ [], Ev.step (fun k => by rw [laws_markIntSSS.l0]) (evNeg (by simp) ?_)⟩
    simp only [tot3P, List.map_nil, List.sum_nil]
    rw [show a + ((0 : Nat) : Int) = a from by simp]
    exact Ev.now _
  | x :: l, pre, a, hl, hx, h0, h1 => by
    rw [tot3P_cons] at h1 ⊢
    rw [List.length_cons] at hl
    obtain ⟨n, hn⟩ := markSS_e x [] a (by simpa using hx x List.mem_cons_self) h0 (by omega)
    obtain ⟨m, key⟩ := markSSS_e l (pre ++ [n]) (a + tot x) (by rw [List.length_append]; simp only [List.length_cons, List.length_nil]; omega) (fun y hy => hx y (List.mem_cons_of_mem _ hy)) (by omega) (by omega)
    refine ⟨m, Ev.step (fun k => by rw [laws_markIntSSS.l0]) (evPos (by rw [List.length_append, List.length_cons]; omega) (evPos (by omega) ?_))⟩
    rw [rdSSS_midP]
    refine evBind (g := fun k => laws_markIntSS.f k x a) hn ?_
    simp only []
    rw [show (pre.length : Int) + 1 = ((pre.length + 1 : Nat) : Int) from by omega, w64n (by omega), Int.toNat_natCast, List.set_append_right _ _ (Nat.le_refl _), Nat.sub_self, List.set_cons_zero]
    rw [List.length_append, List.append_assoc] at key
    rw [show a + ((tot x + tot3P l : Nat) : Int) = a + tot x + (tot3P l : Int) from by omega]
    exact key
theorem totP_le {b : Nat} : ∀ l : List (List Int), (∀ x ∈ l, x.length ≤ b) → tot l ≤ l.length * b
  | [], _ => by simp [tot]
  | x :: l, h => by
    rw [tot_cons, List.length_cons, Nat.succ_mul]
    have h1 := h x List.mem_cons_self
    have h2 := totP_le l (fun y hy => h y (List.mem_cons_of_mem _ hy))
    omega
theorem tot3P_le {b : Nat} : ∀ l : List (List (List Int)), (∀ x ∈ l, tot x ≤ b) → tot3P l ≤ l.length * b
  | [], _ => by simp [tot3P]
  | x :: l, h => by
    rw [tot3P_cons, List.length_cons, Nat.succ_mul]
    have h1 := h x List.mem_cons_self
    have h2 := tot3P_le l (fun y hy => h y (List.mem_cons_of_mem _ hy))
    omega
theorem markCoefs_e (l : List (List (List Int))) (a : Int) (hl : l.length ≤ 1048576) (hx : ∀ x ∈ l, BndS 1048576 x) (h0 : 0 ≤ a) (h1 : a ≤ 1152921504606846976) : ∃ b m, 0 ≤ b ∧ Ev (fun k => laws_markCoefs.f k l a) (b, m) := by
  have h2 : ∀ x ∈ l, tot x ≤ 1099511627776 := fun x h => by
    have h3 := hx x h
    have h4 := totP_le (b := 1048576) x (fun y hy => by have := h3.2 y hy; omega)
    have h5 : x.length * 1048576 ≤ 1048576 * 1048576 := Nat.mul_le_mul_right _ (by have := h3.1; omega)
    omega
  have h6 := tot3P_le (b := 1099511627776) l h2
  have h7 : l.length * 1099511627776 ≤ 1048576 * 1099511627776 := Nat.mul_le_mul_right _ hl
  obtain ⟨m, hm⟩ := markSSS_e l [] a (by simpa using hl) (fun x h => by have := (hx x h).1; omega) h0 (by omega)
  refine ⟨a + tot3P l, m, by omega, ?_⟩
  unfold laws_markCoefs.f
  exact evBind (g := fun k => laws_markIntSSS.f k l a) hm (Ev.now _)
theorem pure_BlockAt : laws_FnExactBlockAt.Pure := by
  intro p w h r l c x y z _ _ _ _ hql hqc _ _ _
  refine Ev.rounds (g := fun k => laws_FnExactBlockAt.f k p w h r l c x y z) ?_
  unfold laws_FnExactBlockAt.f
  have hll := hql.1
  have hcl := hqc.1
  have hxx : ∀ x ∈ c, x.length ≤ 9223372036854775807 ∧ ∀ y ∈ x, y.length ≤ 9223372036854775807 := fun x hx => by
    have h1 := hqc.2 x hx
    have h2 := h1.1
    unfold maxLen at h2
    exact ⟨h2, fun y hy => by have h3 := (h1.2 y hy).1; unfold maxLen at h3; exact h3⟩
  unfold maxLen at hll hcl
  refine evBind (evConst (szFrame_f p w h r l 1048576 (by omega) (by omega) hll)) (evIf (fun _ => Ev.now _) (fun hs => ?_))
  have hl : (l.length : Int) ≤ 1048576 := by
    by_cases h : 1048576 - (l.length : Int) < 0
    · rw [if_pos h] at hs; omega
    · omega
  rw [if_neg (by omega)]
  obtain ⟨q, hq, hq2⟩ := szCoefs_f c (1048576 - (l.length : Int)) (by omega) (by omega) hcl hxx
  refine evBind hq (evIf (fun _ => Ev.now _) (fun hs2 => ?_))
  obtain ⟨_, hc, hx⟩ := hq2 (by omega)
  have hl2 : l.length ≤ 1048576 := by omega
  have hc2 : c.length ≤ 1048576 := by omega
  have hm : (l.map convC).length ≤ 1048576 := by rw [List.length_map]; exact hl2
  have hr := blockI_length (p := p) (w := w) (h := h) (r := r) (l := l.map convC) hx x y z
  have hpl : laws_toPlace.f x y z = some (x, y, z) := rfl
  refine evBind (toFrame_f p w h r l hl2) (evBind (toCoefs_f c hc2 hx) (evBind (evConst hpl) (evBind (sBlockAt_f p w h r (l.map convC) hm c hx x y z) ?_)))
  refine evBind (toFrame_f p w h r l hl2) (evBind (toCoefs_f c hc2 hx) (evBind (evConst hpl) (evBind (iBlockAt_f p w h r (l.map convC) hm c hx x y z) ?_)))
  refine evBind (eqIntS_f _ (by omega)) (evPos rfl ?_)
  refine evBind (toFrame_f p w h r l hl2) (evBind (eqFrame_f p w h r (l.map convC) (by omega)) (evPos rfl (evBind (toCoefs_f c hc2 hx) (evBind (eqCoefs_f c hc2 hx) (evPos rfl ?_)))))
  obtain ⟨b, m, hb0, hmk⟩ := markCoefs_e c (1 + 4 * ((l.map convC).length : Int)) hc2 hx (by omega) (by omega)
  refine evBind (markFrame_f p w h r (l.map convC) 1 (by omega) (by omega)) (evBind hmk (evNeg (by simp only []; omega) (evBind (eqIntS_f _ (by omega)) ?_)))
  refine Ev.step (fun k => by rw [laws_FnExactBlockAt.j0]) (evNeg (by simp) ?_)
  refine evBind (markIntS_f _ 1 (by omega) (by omega)) (evBind (heldIntS_f 1 _ (by omega) (by omega)) (evNeg (by omega) (evPos rfl ?_)))
  refine evBind (toFrame_f p w h r l hl2) (evBind (toCoefs_f c hc2 hx) (evBind (evConst hpl) (evBind (iBlockAt_f p w h r (l.map convC) hm c hx x y z) ?_)))
  refine evBind (eqIntS_f _ (by omega)) (evPos rfl (evBind (heldIntS_f 1 _ (by omega) (by omega)) (evNeg (by omega) (evPos rfl (Ev.now _)))))

end Go.Proofs.Ythajjjpblkhmmaa.CB
