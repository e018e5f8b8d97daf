/- Functions that a law of this seat reaches: written by a program of this session (wip/xprint.py), and by hand. -/
import Derived.Test.YtdeheflbigggbaaZCXx0
import Derived.Test.YtdeheflbigggbaaZCXx2
import Derived.Test.YtdeheflbigggbaaZCXx8
import Derived.Test.YtdeheflbigggbaaZCXx9
import Derived.Test.YtdeheflbigggbaaZCXx10
import Derived.Test.YtdeheflbigggbaaZCXx11
namespace Go.Proofs.Ytdeheflbigggbaa.CX
open Go.RowKit Go.Proofs.Ytdeheflbigggbaa.B Go.Proofs.YtdeheflbigggbaaW.PrintWords Go.Proofs.YtdeheflbigggbaaW.PrintLast Go.Proofs.YtdeheflbigggbaaW.PrintMore
attribute [local go_sem] max2_int min2_int max_two min_two max_three min_three max_four min_four   -- for this text's walks alone
set_option linter.unusedVariables false
set_option linter.unusedSimpArgs false

def fG (o : List S59) (i : Nat) : S59 := rd_T59 o (i : Int)
theorem fG_set (o : List S59) (s : Nat) (v : S59) (i : Nat) (h : s < o.length) : fG (o.set s v) i = if i = s then v else fG o i := by
  unfold fG rd_T59
  rw [Int.toNat_natCast, List.getD_eq_getElem?_getD, List.getD_eq_getElem?_getD]
  by_cases hi : i = s
  · subst hi
    rw [if_pos rfl, List.getElem?_set_self h]
    rfl
  · rw [if_neg hi, List.getElem?_set_ne (Ne.symm hi)]
theorem fG_rep (n i : Nat) : fG (List.replicate n z59) i = z59 := by
  unfold fG rd_T59
  rw [Int.toNat_natCast, List.getD_eq_getElem?_getD, List.getElem?_replicate]
  split <;> rfl
structure PreC (x : List Int) (l : Int) (s : Nat) (o : List S59) (n : Int) : Prop where
  len : o.length = x.length
  f0 : ∀ i : Nat, (fG o i).f0 = if 1 ≤ rd x (i : Int) ∧ (rd x (i : Int) < l ∨ rd x (i : Int) = l ∧ i < s) then rd x (i : Int) else 0
  ub : ∀ i : Nat, (fG o i).f0 ≠ 0 → ((fG o i).f1 + 1) * 2 ^ (l - (fG o i).f0).toNat ≤ n
  pre : ∀ i k : Nat, i ≠ k → (fG o i).f0 ≠ 0 → (fG o k).f0 ≠ 0 → (fG o i).f0 ≤ (fG o k).f0 → (fG o k).f1 / 2 ^ ((fG o k).f0 - (fG o i).f0).toNat ≠ (fG o i).f1
theorem PreC.lo {x : List Int} {l : Int} {s : Nat} {o : List S59} {n : Int} (h : PreC x l s o n) (i : Nat) (hi : (fG o i).f0 ≠ 0) : 1 ≤ (fG o i).f0 ∧ (fG o i).f0 ≤ l := by
  have := h.f0 i
  split at this <;> omega
theorem PreC.put {x : List Int} {l : Int} {s : Nat} {o : List S59} {n : Int} (h : PreC x l s o n) (hl : 1 ≤ l) (hs : s < x.length) (hx : rd x (s : Int) = l) : PreC x l (s + 1) (o.set s ⟨l, n⟩) (n + 1) := by
  have hso : s < o.length := by rw [h.len]; exact hs
  have G := fun i => fG_set o s ⟨l, n⟩ i hso
  refine ⟨by rw [List.length_set]; exact h.len, fun i => ?_, fun i => ?_, fun i k => ?_⟩
  · rw [G]
    by_cases hi : i = s
    · subst hi
      rw [if_pos rfl, if_pos ⟨by omega, .inr ⟨hx, by omega⟩⟩, hx]
    · rw [if_neg hi, h.f0 i]
      by_cases hc : 1 ≤ rd x (i : Int) ∧ (rd x (i : Int) < l ∨ rd x (i : Int) = l ∧ i < s)
      · rw [if_pos hc, if_pos (by omega)]
      · rw [if_neg hc, if_neg (by omega)]
  · rw [G]
    by_cases hi : i = s
    · rw [if_pos hi]
      intro _
      simp
    · rw [if_neg hi]
      intro hne
      have := h.ub i hne
      omega
  · rw [G, G]
    intro hik
    by_cases hi : i = s
    · rw [if_pos hi, if_neg (by omega)]
      intro _ hk hle
      have h1 := h.lo k hk
      have h2 := h.ub k hk
      have e1 : (fG o k).f0 = l := by simp only [] at hle; omega
      rw [e1] at h2 ⊢
      simp only [Int.sub_self, Int.toNat_zero, Int.pow_zero, Int.ediv_one, Int.mul_one] at h2 ⊢
      omega
    · rw [if_neg hi]
      by_cases hk : k = s
      · rw [if_pos hk]
        intro hne _ _
        have h2 := h.ub i hne
        have hp : (0 : Int) < 2 ^ (l - (fG o i).f0).toNat := Int.pow_pos (by omega)
        have := Int.le_ediv_of_mul_le hp h2
        simp only []
        omega
      · rw [if_neg hk]
        exact h.pre i k hik
theorem PreC.skip {x : List Int} {l : Int} {s : Nat} {o : List S59} {n : Int} (h : PreC x l s o n) (hx : rd x (s : Int) ≠ l) : PreC x l (s + 1) o n := by
  refine ⟨h.len, fun i => ?_, h.ub, h.pre⟩
  rw [h.f0 i]
  by_cases hi : i = s
  · subst hi
    by_cases hc : 1 ≤ rd x (i : Int) ∧ (rd x (i : Int) < l ∨ rd x (i : Int) = l ∧ i < i)
    · rw [if_pos hc, if_pos (by omega)]
    · rw [if_neg hc, if_neg (by omega)]
  · by_cases hc : 1 ≤ rd x (i : Int) ∧ (rd x (i : Int) < l ∨ rd x (i : Int) = l ∧ i < s)
    · rw [if_pos hc, if_pos (by omega)]
    · rw [if_neg hc, if_neg (by omega)]
theorem PreC.row {x : List Int} {l : Int} (hl : 1 ≤ l) : ∀ (d s : Nat) (o : List S59) (n : Int), s + d = x.length → PreC x l s o n → PreC x l x.length (cRow x l d s o n).1 (cRow x l d s o n).2 := by
  intro d
  induction d with
  | zero =>
    intro s o n hd h
    obtain rfl : s = x.length := by omega
    exact h
  | succ d ih =>
    intro s o n hd h
    simp only [cRow]
    by_cases hc : rd x (s : Int) = l
    · rw [if_pos hc]
      exact ih (s + 1) _ _ (by omega) (h.put hl (by omega) hc)
    · rw [if_neg hc]
      exact ih (s + 1) _ _ (by omega) (h.skip hc)
theorem PreC.up {x : List Int} {l : Int} {o : List S59} {n : Int} (h : PreC x l x.length o n) : PreC x (l + 1) 0 o (2 * n) := by
  refine ⟨h.len, fun i => ?_, fun i hne => ?_, h.pre⟩
  · rw [h.f0 i]
    by_cases hi : i < x.length
    · by_cases hc : 1 ≤ rd x (i : Int) ∧ (rd x (i : Int) < l ∨ rd x (i : Int) = l ∧ i < x.length)
      · rw [if_pos hc, if_pos (by omega)]
      · rw [if_neg hc, if_neg (by omega)]
    · have := rd_ge (l := x) (i := i) (by omega)
      rw [if_neg (by omega), if_neg (by omega)]
  · have h1 := h.lo i hne
    have h2 := h.ub i hne
    rw [show (l + 1 - (fG o i).f0).toNat = (l - (fG o i).f0).toNat + 1 from by omega, Int.pow_succ, ← Int.mul_assoc]
    omega
theorem PreC.lev {x : List Int} : ∀ (d c : Nat) (o : List S59) (n : Int), d + c = 16 → PreC x ((c + 1 : Nat) : Int) 0 o (2 * n) → ∃ n', PreC x 17 0 (cLev x d ((c + 1 : Nat) : Int) o n) n' := by
  intro d
  induction d with
  | zero =>
    intro c o n hd h
    obtain rfl : c = 16 := by omega
    exact ⟨_, h⟩
  | succ d ih =>
    intro c o n hd h
    have := (PreC.row (l := ((c + 1 : Nat) : Int)) (by omega) x.length 0 o (2 * n) (by omega) h).up
    simp only [cLev]
    rw [show ((c + 1 : Nat) : Int) + 1 = ((c + 1 + 1 : Nat) : Int) from by omega] at this ⊢
    exact ih (c + 1) _ _ (by omega) this
theorem codesL_pre {x : List Int} (h : lensB x = true) : ∃ n', PreC x 17 0 (codesL x) n' := by
  unfold codesL
  rw [if_pos h]
  refine PreC.lev 16 0 _ 0 (by omega) ⟨by simp, fun i => ?_, fun i hne => ?_, fun i k _ hne => ?_⟩
  · rw [fG_rep, if_neg (by omega)]
    rfl
  · rw [fG_rep] at hne
    exact absurd rfl hne
  · rw [fG_rep] at hne
    exact absurd rfl hne
theorem lens_in {x : List Int} (h : lensB x = true) (i : Nat) (hi : i < x.length) : 0 ≤ rd x (i : Int) ∧ rd x (i : Int) ≤ 16 := by
  unfold lensB at h
  rw [Bool.and_eq_true, Bool.and_eq_true] at h
  rw [rd_nat hi]
  exact inR_iff.1 (List.all_eq_true.1 h.2.1 x[i] (List.getElem_mem hi))
theorem law_l1 (x : List Int) (c : List S59) {n : Int} (hp : PreC x 17 0 c n) (hx : x.length ≤ 256) (i : Nat) (hi : i < c.length) (kq : Ev (fun k => laws_FnPrefix.l0 k x c c ((i + 1 : Nat) : Int)) true) :
    ∀ (d j : Nat), j + d = c.length → Ev (fun k => laws_FnPrefix.l1 k x c c i j) true := by
  have hl := hp.len
  intro d
  induction d with
  | zero =>
    intro j hd
    refine Ev.step (fun k => by rw [laws_FnPrefix.l1]) (evNeg (by omega) ?_)
    rw [show (i : Int) + 1 = ((i + 1 : Nat) : Int) from by omega, w64n (by omega)]
    exact kq
  | succ d ih =>
    intro j hd
    have nx : Ev (fun k => laws_FnPrefix.l1 k x c c i (wrap64 ((j : Int) + 1))) true := by
      rw [show (j : Int) + 1 = ((j + 1 : Nat) : Int) from by omega, w64n (by omega)]
      exact ih (j + 1) (by omega)
    have hT : ∀ a b a' b' : Int, Ev (fun k => laws_FnPrefix.j4 k x c c i j true a b a' b') true := fun a b a' b' => Ev.step (fun k => by rw [laws_FnPrefix.j4]) (evPos rfl nx)
    refine Ev.step (fun k => by rw [laws_FnPrefix.l1]) (evPos (by omega) (evPos (by omega) (evPos (by omega) (evPos (by omega) ?_))))
    refine evIf (fun _ => hT _ _ _ _) (fun hij => evIf (fun _ => hT _ _ _ _) (fun hi0 => ?_))
    by_cases hlt : (rd_T59 c (j : Int)).f0 < (rd_T59 c (i : Int)).f0
    · rw [decide_eq_true hlt]
      exact hT _ _ _ _
    · rw [decide_eq_false hlt]
      have a1 := hp.lo i hi0
      have hle : (fG c i).f0 ≤ (fG c j).f0 := by unfold fG; omega
      have b0 : (fG c j).f0 ≠ 0 := by omega
      have b1 := hp.lo j b0
      have hq := hp.pre i j (by omega) hi0 b0 hle
      have e1 : wrap64 ((rd_T59 c (j : Int)).f0 - (rd_T59 c (i : Int)).f0) = (fG c j).f0 - (fG c i).f0 := by
        unfold fG at a1 b1 hle ⊢
        exact w64 (by omega) (by omega)
      refine Ev.step (fun k => by rw [laws_FnPrefix.j4, e1]) (evNeg (by simp) (evPos (by omega) (evNeg ?_ nx)))
      unfold shr
      rw [Nat.min_eq_left (by show _ ≤ 64; omega)]
      exact hq
theorem law_l0 (x : List Int) (c : List S59) {n : Int} (hp : PreC x 17 0 c n) (hx : x.length ≤ 256) (hr : ∀ i : Nat, i < x.length → 0 ≤ rd x (i : Int) ∧ rd x (i : Int) ≤ 16) : ∀ (d i : Nat), i + d = c.length → Ev (fun k => laws_FnPrefix.l0 k x c c i) true := by
  have hl := hp.len
  intro d
  induction d with
  | zero =>
    intro i hd
    refine Ev.step (fun k => by rw [laws_FnPrefix.l0]) (evNeg (by omega) ?_)
    exact Ev.now _
  | succ d ih =>
    intro i hd
    have hb := hr i (by omega)
    have hf := hp.f0 i
    have e0 : (rd_T59 c (i : Int)).f0 = rd x (i : Int) := by
      unfold fG at hf
      rw [hf]
      split <;> omega
    refine Ev.step (fun k => by rw [laws_FnPrefix.l0]) (evPos (by omega) (evPos (by omega) (evPos (by omega) (evNeg (by simp) (evPos (by omega) ?_)))))
    rw [e0, show (rd x (i : Int) != rd x (i : Int)) = false from by simp]
    refine Ev.step (fun k => by rw [laws_FnPrefix.j2]) (evNeg (by simp) ?_)
    exact law_l1 x c hp hx i (by omega) (ih (i + 1) (by omega)) c.length 0 (by omega)
theorem pure_Prefix : laws_FnPrefix.Pure := by
  intro l hl
  have hc : ∀ y ∈ l, 0 ≤ y ∧ y ≤ 255 := fun y hy => wf8 (hl.2 y hy)
  have main : EvP (fun k => laws_FnPrefix.f k l) (fun r => r = true) := by
    unfold laws_FnPrefix.f
    refine evpBind (Q := fun t => t = decide ((l.length : Int) > 1048576)) (evpNow (big_f l) rfl) (fun t ht => ?_)
    subst ht
    refine evpIf (fun _ => evpNow rfl rfl) (fun hb => ?_)
    have hb2 : ¬ ((l.length : Int) > 1048576) := fun h => hb (decide_eq_true h)
    refine evpBind (drawCodes_f l ⟨by omega, hc⟩) (fun x hx => ?_)
    refine evpOf (r := true) ?_ rfl
    refine evBind (iCodes_f x (by unfold maxLen; omega)) (evBind (sCodes_f x) (evPos rfl (evBind (iLens_f x (by unfold maxLen; omega)) (evBind (sLens_f x) ?_))))
    rw [show (lensB x != lensB x) = false from by simp]
    refine Ev.step (fun k => by rw [laws_FnPrefix.j0]) (evNeg (by simp) ?_)
    by_cases h : lensB x = true
    · obtain ⟨n, hp⟩ := codesL_pre h
      exact law_l0 x _ hp hx (lens_in h) (codesL x).length 0 (by omega)
    · have e : codesL x = [] := by unfold codesL; rw [if_neg h]
      rw [e]
      refine Ev.step (fun k => by rw [laws_FnPrefix.l0]) (evNeg (by simp) ?_)
      exact Ev.now _
  obtain ⟨r, ⟨k, hk⟩, rfl⟩ := main
  exact ⟨k, hk k (Nat.le_refl _)⟩

end Go.Proofs.Ytdeheflbigggbaa.CX
