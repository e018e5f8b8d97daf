/- Functions that a law of this seat reaches: written by a program of this session (wip/xprint.py), and by hand. -/
import Derived.Test.YtdeheflbigggbaaZCXx0
import Derived.Test.YtdeheflbigggbaaZCXx2
import Derived.Test.YtdeheflbigggbaaZCXx4
import Derived.Test.YtdeheflbigggbaaZCXx5
namespace Go.Proofs.Ytdeheflbigggbaa.CX
open Go.RowKit Go.Proofs.Ytdeheflbigggbaa.B Go.Proofs.YtdeheflbigggbaaW.PrintWords Go.Proofs.YtdeheflbigggbaaW.PrintLast Go.Proofs.YtdeheflbigggbaaW.PrintMore
attribute [local go_sem] max2_int min2_int max_two min_two max_three min_three max_four min_four   -- for this text's walks alone
set_option linter.unusedVariables false
set_option linter.unusedSimpArgs false

def idxOk (n : Nat) (l : List Int) : Prop := ∀ y ∈ l, 0 ≤ y ∧ y < (n : Int)
theorem idxOk_get {n : Nat} {l : List Int} (h : idxOk n l) {i : Nat} (hi : i < l.length) : 0 ≤ rd l (i : Int) ∧ rd l (i : Int) < (n : Int) := by
  rw [rd_nat hi]
  exact h _ (List.getElem_mem _)
theorem best_l5 {n m : Nat} (x4 : List Int) (x12 : List S89) (j : Nat) (h4 : x4.length = n) (hi4 : idxOk m x4) (hN : thN n x12) (hj : j < x12.length) (hn : n ≤ 256) (hx : x12.length ≤ 100000) {Q : List Int → Prop}
    (kq : ∀ x3 : List Int, x3.length = m → EvP (fun k => spec_BestLens.l4 k x3 x4 n x12 ((j + 1 : Nat) : Int)) Q) : ∀ (d i : Nat) (x3 : List Int), i + d = n → x3.length = m → EvP (fun k => spec_BestLens.l5 k x3 x4 n x12 j i) Q := by
  have g := thN_get hN hj
  intro d
  induction d with
  | zero =>
    intro i x3 hi h3
    refine evpStep (fun k => by rw [spec_BestLens.l5]) (evpNeg (by omega) ?_)
    rw [show (j : Int) + 1 = ((j + 1 : Nat) : Int) from by omega, w64n (by omega)]
    exact kq x3 h3
  | succ d ih =>
    intro i x3 hi h3
    have r := idxOk_get hi4 (show i < x4.length by omega)
    refine evpStep (fun k => by rw [spec_BestLens.l5]) (evpPos (by omega) (evpPos (by omega) (evpPos (by omega) (evpPos r.1 (evpPos (by omega) (evpPos (by omega) (evpPos (by omega) (evpPos (by omega) ?_))))))))
    rw [show (i : Int) + 1 = ((i + 1 : Nat) : Int) from by omega, w64n (n := i + 1) (by omega)]
    exact ih (i + 1) _ (by omega) (by simp [h3])
theorem best_l4 {n m : Nat} (x4 : List Int) (x12 : List S89) (h4 : x4.length = n) (hi4 : idxOk m x4) (hN : thN n x12) (hj : 2 * n ≤ x12.length + 2) (hn : n ≤ 256) (hx : x12.length ≤ 100000) : ∀ (d j : Nat) (x3 : List Int), j + d = 2 * n - 2 → x3.length = m →
    EvP (fun k => spec_BestLens.l4 k x3 x4 n x12 j) (fun r => r.length = m) := by
  have e : wrap64 (wrap64 (2 * (n : Int)) - 2) = 2 * (n : Int) - 2 := by rw [w64 (x := 2 * (n : Int)) (by omega) (by omega), w64 (by omega) (by omega)]
  intro d
  induction d with
  | zero =>
    intro j x3 hd h3
    refine evpStep (fun k => by rw [spec_BestLens.l4]) (evpNeg (by rw [e]; omega) ?_)
    exact evpNow rfl h3
  | succ d ih =>
    intro j x3 hd h3
    refine evpStep (fun k => by rw [spec_BestLens.l4]) (evpPos (by rw [e]; omega) ?_)
    exact best_l5 x4 x12 j h4 hi4 hN (by omega) hn hx (fun x3' h3' => ih (j + 1) x3' (by omega) h3') n 0 x3 (by omega) h3
theorem best_l3 {n m : Nat} (x4 : List Int) (x9 : List S89) (h4 : x4.length = n) (hi4 : idxOk m x4) (h9 : thN n x9) (l9 : x9.length = n) (hn : n ≤ 256) (x3 : List Int) (h3 : x3.length = m) : ∀ (d c : Nat) (x12 : List S89), c + d = 15 → thN n x12 → x12.length ≤ 2 * n → (2 * (n : Int) - x12.length - 1) * 2 ^ c ≤ 255 →
    EvP (fun k => spec_BestLens.l3 k x3 x4 n x9 x12 ((c + 1 : Nat) : Int)) (fun r => r.length = m) := by
  intro d
  induction d with
  | zero =>
    intro c x12 hd hN hl hD
    refine evpStep (fun k => by rw [spec_BestLens.l3]) (evpNeg (by omega) ?_)
    obtain rfl : c = 15 := by omega
    exact best_l4 x4 x12 h4 hi4 hN (by have h2 : (2 : Int) ^ 15 = 32768 := by decide
                                       rw [h2] at hD; omega) hn (by omega) (2 * n - 2) 0 x3 (by omega) h3
  | succ d ih =>
    intro c x12 hd hN hl hD
    refine evpStep (fun k => by rw [spec_BestLens.l3]) (evpPos (by omega) ?_)
    refine evpBind (merge_f x9 x12 h9 hN (by omega) (by omega) (by omega)) (fun t ht => ?_)
    rw [w64 (by omega) (by omega), show ((c + 1 : Nat) : Int) + 1 = ((c + 1 + 1 : Nat) : Int) from by omega]
    refine ih (c + 1) t (by omega) ht.1 (by have := ht.2; omega) ?_
    have e1 := ht.2
    have hp : (0 : Int) < 2 ^ c := Int.pow_pos (by omega)
    have hle : 2 * (2 * (n : Int) - t.length - 1) ≤ 2 * (n : Int) - x12.length - 1 := by omega
    have := Int.mul_le_mul_of_nonneg_right hle (Int.le_of_lt hp)
    rw [Int.pow_succ, Int.mul_comm (2 ^ c) 2, ← Int.mul_assoc, Int.mul_comm (2 * (n : Int) - t.length - 1) 2]
    omega
theorem best_l2 {n m : Nat} (x0 x4 : List Int) (h4 : x4.length = n) (h0 : x0.length = m) (hi4 : idxOk m x4) (hn : n ≤ 256) (x3 : List Int) (h3 : x3.length = m) : ∀ (d i : Nat) (x9 : List S89), i + d = n → x9.length = i → thN n x9 →
    EvP (fun k => spec_BestLens.l2 k x0 x3 x4 n x9 i) (fun r => r.length = m) := by
  intro d
  induction d with
  | zero =>
    intro i x9 hd l9 h9
    refine evpStep (fun k => by rw [spec_BestLens.l2]) (evpNeg (by omega) ?_)
    exact best_l3 x4 x9 h4 hi4 h9 (by omega) hn x3 h3 15 0 x9 (by omega) h9 (by omega) (by omega)
  | succ d ih =>
    intro i x9 hd l9 h9
    have r := idxOk_get hi4 (show i < x4.length by omega)
    refine evpStep (fun k => by rw [spec_BestLens.l2]) (evpPos (by omega) (evpPos (by omega) (evpPos (by omega) ?_)))
    refine evpBind (Q := fun y => y = List.replicate n 0) (evpNow (by rw [Int.toNat_natCast]) rfl) (fun y hy => ?_)
    subst hy
    refine evpPos (by omega) (evpPos (by simp; omega) (evpPos (by omega) (evpPos r.1 (evpPos (by omega) (evpPos (by omega) ?_)))))
    rw [show (i : Int) + 1 = ((i + 1 : Nat) : Int) from by omega, w64n (by omega)]
    exact ih (i + 1) _ (by omega) (by simp [l9]) (thN_snoc h9 (by simp))
theorem idxOk_ins {m q i : Nat} {l : List Int} (h : idxOk m l) (hi : i < m) : idxOk m (l.take q ++ [(i : Int)] ++ l.drop q) := by
  intro y hy
  rcases List.mem_append.1 hy with hy | hy
  · rcases List.mem_append.1 hy with hy | hy
    · exact h y (List.mem_of_mem_take hy)
    · rw [List.mem_singleton.1 hy]
      omega
  · exact h y (List.mem_of_mem_drop hy)
theorem best_l1 {m : Nat} (x0 x3 x4 : List Int) (i : Nat) (hi : i < m) (h0 : x0.length = m) (hm : m ≤ 256) (h4 : x4.length ≤ i) (hi4 : idxOk m x4) {Q : List Int → Prop}
    (kq : ∀ x4' : List Int, x4'.length ≤ i + 1 → idxOk m x4' → EvP (fun k => spec_BestLens.l0 k x0 x3 x4' ((i + 1 : Nat) : Int)) Q) : ∀ (q : Nat), q ≤ x4.length → EvP (fun k => spec_BestLens.l1 k x0 x3 x4 i q) Q := by
  have ins : ∀ q : Nat, q ≤ x4.length → EvP (fun k => (some (([] : List Int) : List Int)).bind fun y157 => (if 0 ≤ (q : Int) then (if (q : Int) ≤ (x4.length : Int) then ((some (x4.take (q : Int).toNat : List Int)).bind fun y160 => (if y157.length + y160.length < 17592186044416 then ((some (y157 ++ y160 : List Int)).bind fun y165 => (if y165.length < 17592186044416 then ((some (y165 ++ [(i : Int)] : List Int)).bind fun y168 => ((some (x4.drop (q : Int).toNat : List Int)).bind fun y171 => (if y168.length + y171.length < 17592186044416 then (spec_BestLens.l0 k x0 x3 (y168 ++ y171) (wrap64 ((i : Int) + 1))) else (none)))) else (none))) else (none))) else (none)) else (none))) Q := by
    intro q hq
    refine evpBind (Q := fun y => y = []) (evpNow rfl rfl) (fun y hy => ?_)
    subst hy
    refine evpPos (by omega) (evpPos (by omega) ?_)
    refine evpBind (Q := fun y => y = x4.take q) (evpNow (by rw [Int.toNat_natCast]) rfl) (fun y hy => ?_)
    subst hy
    refine evpPos (by simp; omega) ?_
    refine evpBind (Q := fun y => y = x4.take q) (evpNow (by rw [List.nil_append]) rfl) (fun y hy => ?_)
    subst hy
    refine evpPos (by simp; omega) ?_
    refine evpBind (Q := fun y => y = x4.take q ++ [(i : Int)]) (evpNow rfl rfl) (fun y hy => ?_)
    subst hy
    refine evpBind (Q := fun y => y = x4.drop q) (evpNow (by rw [Int.toNat_natCast]) rfl) (fun y hy => ?_)
    subst hy
    refine evpPos (by simp; omega) ?_
    rw [show (i : Int) + 1 = ((i + 1 : Nat) : Int) from by omega, w64n (by omega)]
    exact kq _ (by simp; omega) (idxOk_ins hi4 hi)
  intro q
  induction q with
  | zero =>
    intro hq
    refine evpStep (fun k => by rw [spec_BestLens.l1]) (evpNeg (by omega) ?_)
    exact ins 0 (by omega)
  | succ q ih =>
    intro hq
    have r := idxOk_get hi4 (show q < x4.length by omega)
    have e : wrap64 (((q + 1 : Nat) : Int) - 1) = (q : Int) := by rw [w64 (by omega) (by omega)]; omega
    refine evpStep (fun k => by rw [spec_BestLens.l1, e]) (evpPos (by omega) (evpPos (by omega) (evpPos (by omega) (evpPos r.1 (evpPos (by omega) (evpPos (by omega) (evpPos (by omega) (evpIf (fun _ => ih (by omega)) (fun _ => ?_)))))))))
    exact ins (q + 1) hq
theorem best_l0 {m : Nat} (x0 x3 : List Int) (h0 : x0.length = m) (hm : m ≤ 256) (h3 : x3.length = m) : ∀ (d i : Nat) (x4 : List Int), i + d = m → x4.length ≤ i → idxOk m x4 → EvP (fun k => spec_BestLens.l0 k x0 x3 x4 i) (fun r => r.length = m) := by
  intro d
  induction d with
  | zero =>
    intro i x4 hd h4 hi4
    refine evpStep (fun k => by rw [spec_BestLens.l0]) (evpNeg (by omega) (evpIf (fun h1 => ?_) (fun _ => ?_)))
    · have r := idxOk_get hi4 (show 0 < x4.length by omega)
      simp only [Int.ofNat_zero, Int.natCast_zero] at r
      refine evpPos (by omega) (evpPos r.1 (evpPos (by omega) ?_))
      exact evpNow rfl (by simp [h3])
    · exact best_l2 x0 x4 rfl h0 hi4 (by omega) x3 h3 x4.length 0 [] (by omega) rfl (fun x hx => by cases hx)
  | succ d ih =>
    intro i x4 hd h4 hi4
    refine evpStep (fun k => by rw [spec_BestLens.l0]) (evpPos (by omega) (evpPos (by omega) (evpIf (fun _ => ?_) (fun _ => ?_))))
    · rw [show (i : Int) + 1 = ((i + 1 : Nat) : Int) from by omega, w64n (by omega)]
      exact ih (i + 1) x4 (by omega) (by omega) hi4
    · exact best_l1 x0 x3 x4 i (by omega) h0 hm h4 hi4 (fun x4' h4' hi4' => ih (i + 1) x4' (by omega) h4' hi4') x4.length (Nat.le_refl _)
theorem best_f (l : List Int) (hl : l.length ≤ 100000) : EvP (fun k => spec_BestLens.f k l) (fun r => r.length ≤ 256) := by
  unfold spec_BestLens.f
  refine evpBind (freqs_f l) (fun t ht => evpIf (fun h => ?_) (fun _ => evpNow rfl (by simp)))
  have h2 := ht h
  refine evpPos (by omega) (evpPos (by omega) ?_)
  exact evpMono (best_l0 l _ rfl h2 (by simp) l.length 0 [] (by omega) (by simp) (fun y hy => by cases hy)) (fun r hr => by omega)

/-! ### spec_l01Cur_pick: function 81 -/
def spec_l01Cur_pick.f (s0_0 : List Int) (s0_1 : Int) (s0_2 : Int) (a1 : Int) : Option (Int × Int × Int) := if a1 < 2 then (some (0, s0_1, s0_2)) else (if s0_1 < (s0_0.length : Int) then (if 0 ≤ s0_1 then (if a1 > 256 then (if (wrap64 (s0_1 + 1)) < (s0_0.length : Int) then (if 0 ≤ (wrap64 (s0_1 + 1)) then (if a1 = 0 then (none) else (some (Int.tmod (wrap64 ((wrap64 (256 * (wrap64 (rd s0_0 s0_1)))) + (wrap64 (rd s0_0 (wrap64 (s0_1 + 1)))))) a1, wrap64 ((wrap64 (s0_1 + 1)) + 1), s0_2))) else (none)) else (if a1 = 0 then (none) else (some (Int.tmod (wrap64 (rd s0_0 s0_1)) a1, wrap64 (s0_1 + 1), s0_2)))) else (if a1 = 0 then (none) else (some (Int.tmod (wrap64 (rd s0_0 s0_1)) a1, wrap64 (s0_1 + 1), s0_2)))) else (none)) else (if (s0_0.length : Int) > 0 then (if (s0_0.length : Int) = 0 then (none) else (if 0 ≤ (Int.tmod s0_1 (s0_0.length : Int)) then (if (Int.tmod s0_1 (s0_0.length : Int)) < (s0_0.length : Int) then (if a1 = 0 then (none) else (some (Int.tmod (wrap64 ((wrap64 (Int.tdiv (Int.tmod (wrap64 ((wrap64 (s0_2 * 1103)) + 12345)) 65521) 3)) + (wrap64 (rd s0_0 (Int.tmod s0_1 (s0_0.length : Int)))))) a1, wrap64 (s0_1 + 1), Int.tmod (wrap64 ((wrap64 (s0_2 * 1103)) + 12345)) 65521))) else (none)) else (none))) else (if a1 = 0 then (none) else (some (Int.tmod (wrap64 (Int.tdiv (Int.tmod (wrap64 ((wrap64 (s0_2 * 1103)) + 12345)) 65521) 3)) a1, wrap64 (s0_1 + 1), Int.tmod (wrap64 ((wrap64 (s0_2 * 1103)) + 12345)) 65521)))))
set_option maxHeartbeats 8000000 in
set_option maxRecDepth 100000 in
theorem spec_l01Cur_pick.calls (g : Nat) (s0_0 : List Int) (s0_1 : Int) (s0_2 : Int) (a1 : Int) (r1 : Int) (r2 : Int) (r3 : Int) (w0 w : World) (hI : IsS116 w0 w g s0_0 s0_1 s0_2) (hB : Below w0.heap.size w0 w) (h : spec_l01Cur_pick.f s0_0 s0_1 s0_2 a1 = some (r1, r2, r3)) :
    Calls Try.prog 81 #[.pointer (some ⟨g, 0, none⟩), .int .i64 a1] w fun e w' => e = .returned (.int .i64 r1) ∧ IsS116 w0 w' g s0_0 r2 r3 ∧ Below w0.heap.size w0 w' ∧ KeepBut w w' g none := by
  have HI0 := Aside0.mk hI
  have HK := Aside0.mk (KeepBut.refl w g none)
  have HL := Aside0.mk hB.size
  clear hI
  have HW0 := Aside0.mk hB.size
  have HB := Aside0.mk hB
  clear hB
  have H : (if a1 < 2 then (some (0, s0_1, s0_2)) else (if s0_1 < (s0_0.length : Int) then (if 0 ≤ s0_1 then (if a1 > 256 then (if (wrap64 (s0_1 + 1)) < (s0_0.length : Int) then (if 0 ≤ (wrap64 (s0_1 + 1)) then (if a1 = 0 then (none) else (some (Int.tmod (wrap64 ((wrap64 (256 * (wrap64 (rd s0_0 s0_1)))) + (wrap64 (rd s0_0 (wrap64 (s0_1 + 1)))))) a1, wrap64 ((wrap64 (s0_1 + 1)) + 1), s0_2))) else (none)) else (if a1 = 0 then (none) else (some (Int.tmod (wrap64 (rd s0_0 s0_1)) a1, wrap64 (s0_1 + 1), s0_2)))) else (if a1 = 0 then (none) else (some (Int.tmod (wrap64 (rd s0_0 s0_1)) a1, wrap64 (s0_1 + 1), s0_2)))) else (none)) else (if (s0_0.length : Int) > 0 then (if (s0_0.length : Int) = 0 then (none) else (if 0 ≤ (Int.tmod s0_1 (s0_0.length : Int)) then (if (Int.tmod s0_1 (s0_0.length : Int)) < (s0_0.length : Int) then (if a1 = 0 then (none) else (some (Int.tmod (wrap64 ((wrap64 (Int.tdiv (Int.tmod (wrap64 ((wrap64 (s0_2 * 1103)) + 12345)) 65521) 3)) + (wrap64 (rd s0_0 (Int.tmod s0_1 (s0_0.length : Int)))))) a1, wrap64 (s0_1 + 1), Int.tmod (wrap64 ((wrap64 (s0_2 * 1103)) + 12345)) 65521))) else (none)) else (none))) else (if a1 = 0 then (none) else (some (Int.tmod (wrap64 (Int.tdiv (Int.tmod (wrap64 ((wrap64 (s0_2 * 1103)) + 12345)) 65521) 3)) a1, wrap64 (s0_1 + 1), Int.tmod (wrap64 ((wrap64 (s0_2 * 1103)) + 12345)) 65521)))))) = some (r1, r2, r3) := h
  clear h
  by_cases c3 : a1 < 2
  · rw [if_pos c3] at H
    have c3b0 : decide (a1 < 2) = true := decide_eq_true c3
    clear c3
    simp only [Option.some.injEq, Prod.mk.injEq] at H
    obtain ⟨rfl, rfl, rfl⟩ := H
    go_enter Try.func81, Try.ntmps81
    go_wp2
    repeat (go_quiet (fail); try go_wp2)
    go_ret
    exact ⟨by first | rfl | (simp [errW_none, errW_some] <;> rfl) | (simp [*, errW_none, errW_some] <;> rfl), by repeat (first | (with_reducible first | exact HI0.out | apply IsS116.alloc | apply IsS116.drewN | apply IsS116.drew | apply IsS116.set_1 | apply IsS116.set_2) | exact HI0.out), by repeat (first | (with_reducible first | exact HB.out | apply below_alloc | apply pw_below_drewN | apply below_drew1 | refine below_set ?_ (IsS116.ge HI0.out)) | exact HB.out), by repeat (first | (with_reducible first | exact HK.out | apply KeepBut.set_ | apply keep_drewN | apply keep_drew | apply keep_alloc) | exact HK.out)⟩
  · rw [if_neg c3] at H
    have c3b0 : decide (a1 < 2) = false := decide_eq_false c3
    clear c3
    by_cases c4 : s0_1 < (s0_0.length : Int)
    · rw [if_pos c4] at H
      have c4b0 : decide (s0_1 < (s0_0.length : Int)) = true := decide_eq_true c4
      clear c4
      by_cases c5 : 0 ≤ s0_1
      · rw [if_pos c5] at H
        have c5b0 : decide (0 ≤ s0_1) = true := decide_eq_true c5
        clear c5
        by_cases c6 : a1 > 256
        · rw [if_pos c6] at H
          have c6b0 : decide (256 < a1) = true := decide_eq_true c6
          clear c6
          by_cases c7 : (wrap64 (s0_1 + 1)) < (s0_0.length : Int)
          · rw [if_pos c7] at H
            have c7b0 : decide ((wrap64 (s0_1 + 1)) < (s0_0.length : Int)) = true := decide_eq_true c7
            clear c7
            obtain ⟨ji8, hji8⟩ : ∃ j_ : Int, (wrap64 (s0_1 + 1)) = j_ := ⟨_, rfl⟩
            replace H : (if 0 ≤ (ji8) then (if a1 = 0 then (none) else (some (Int.tmod (wrap64 ((wrap64 (256 * (wrap64 (rd s0_0 s0_1)))) + (wrap64 (rd s0_0 (ji8))))) a1, wrap64 ((ji8) + 1), s0_2))) else (none)) = some (r1, r2, r3) := by first | (rw [hji8] at H; exact H) | (simp only [hji8] at H ⊢; exact H)
            (try rw [hji8] at c7b0)
            have hji8w : (IntKind.i64.wrap (s0_1 + 1)) = ji8 := (i64_w _).trans hji8
            by_cases c9 : 0 ≤ (ji8)
            · rw [if_pos c9] at H
              have c9b0 : decide (0 ≤ (ji8)) = true := decide_eq_true c9
              clear c9
              by_cases c10 : a1 = 0
              · rw [if_pos c10] at H
                exact absurd H (by simp)
              · rw [if_neg c10] at H
                have c10b0 : (a1 == 0) = false := beq_eq_false_iff_ne.mpr c10
                have c10b1 : (a1 != 0) = true := bne_iff_ne.mpr c10
                simp only [Option.some.injEq, Prod.mk.injEq] at H
                obtain ⟨rfl, rfl, rfl⟩ := H
                obtain ⟨ASz11_0, cSz11_0, HGz11, hgz11, HSz11_0⟩ := HI0.out
                have hcz11_0 := cellS116_0 HGz11
                have hcz11_1 := cellS116_1 HGz11
                have hcz11_2 := cellS116_2 HGz11
                have hfz11_1 := blk_frozen HGz11 1
                have hfz11_2 := blk_frozen HGz11 2
                clear HGz11 hgz11
                have p224 : 0 ≤ (s0_1 : Int) := of_decide_eq_true (by first | (with_reducible assumption) | assumption)
                have q224 : s0_1 < (s0_0.length : Int) := of_decide_eq_true (by first | (with_reducible assumption) | assumption)
                obtain ⟨ad224, e224, hx224_0⟩ := Kd.at_int HSz11_0 s0_1 p224 q224
                cases e224
                replace hx224_0 := pw_cell_below HB.out hx224_0
                replace p224 := eq_true p224
                replace q224 := eq_true q224
                have p225 : 0 ≤ ((ji8) : Int) := of_decide_eq_true (by first | (with_reducible assumption) | assumption)
                have q225 : (ji8) < (s0_0.length : Int) := of_decide_eq_true (by first | (with_reducible assumption) | assumption)
                obtain ⟨ad225, e225, hx225_0⟩ := Kd.at_int HSz11_0 (ji8) p225 q225
                obtain rfl : ad224 = ad225 := (by injection e225)
                have hn225_0 : ad224.block ≠ g := Nat.ne_of_lt (Nat.lt_of_lt_of_le (by have := World.block_lt_of_cell? _ _ hx225_0; first | rwa [add_block] at this | exact this) (IsS116.ge HI0.out))
                replace hx225_0 := pw_cell_below HB.out hx225_0
                replace hx225_0 := (cell_far (p := ⟨g, 1, none⟩) (by first | (rw [add_block]; exact hn225_0) | (show (Addr.add _ _).block ≠ _; rw [add_block]; exact hn225_0) | exact hn225_0) (.int .i64 ji8)).trans hx225_0
                (try have hy225_0 := fun (n_ : Nat) => (show (((w.drewN n_).setCell ⟨g, 1, none⟩ (.int .i64 ji8))).cell? _ = some _ from hx225_0))
                clear hn225_0
                replace p225 := eq_true p225
                replace q225 := eq_true q225
                go_enter Try.func81, Try.ntmps81
                go_wp2
                repeat (go_quiet (fail); try go_wp2)
                go_ret
                exact ⟨by first | rfl | (simp [errW_none, errW_some] <;> rfl) | (simp only [← hji8]; first | rfl | (simp [errW_none, errW_some] <;> rfl)) | (simp [*, errW_none, errW_some] <;> rfl), by repeat (first | (with_reducible first | exact HI0.out | apply IsS116.alloc | apply IsS116.drewN | apply IsS116.drew | apply IsS116.set_1 | apply IsS116.set_2) | exact HI0.out), by repeat (first | (with_reducible first | exact HB.out | apply below_alloc | apply pw_below_drewN | apply below_drew1 | refine below_set ?_ (IsS116.ge HI0.out)) | exact HB.out), by repeat (first | (with_reducible first | exact HK.out | apply KeepBut.set_ | apply keep_drewN | apply keep_drew | apply keep_alloc) | exact HK.out)⟩
            · rw [if_neg c9] at H
              exact absurd H (by simp)
          · rw [if_neg c7] at H
            have c7b0 : decide ((wrap64 (s0_1 + 1)) < (s0_0.length : Int)) = false := decide_eq_false c7
            clear c7
            by_cases c12 : a1 = 0
            · rw [if_pos c12] at H
              exact absurd H (by simp)
            · rw [if_neg c12] at H
              have c12b0 : (a1 == 0) = false := beq_eq_false_iff_ne.mpr c12
              have c12b1 : (a1 != 0) = true := bne_iff_ne.mpr c12
              simp only [Option.some.injEq, Prod.mk.injEq] at H
              obtain ⟨rfl, rfl, rfl⟩ := H
              obtain ⟨ASz13_0, cSz13_0, HGz13, hgz13, HSz13_0⟩ := HI0.out
              have hcz13_0 := cellS116_0 HGz13
              have hcz13_1 := cellS116_1 HGz13
              have hcz13_2 := cellS116_2 HGz13
              have hfz13_1 := blk_frozen HGz13 1
              have hfz13_2 := blk_frozen HGz13 2
              clear HGz13 hgz13
              have p224 : 0 ≤ (s0_1 : Int) := of_decide_eq_true (by first | (with_reducible assumption) | assumption)
              have q224 : s0_1 < (s0_0.length : Int) := of_decide_eq_true (by first | (with_reducible assumption) | assumption)
              obtain ⟨ad224, e224, hx224_0⟩ := Kd.at_int HSz13_0 s0_1 p224 q224
              cases e224
              replace hx224_0 := pw_cell_below HB.out hx224_0
              replace p224 := eq_true p224
              replace q224 := eq_true q224
              go_enter Try.func81, Try.ntmps81
              go_wp2
              repeat (go_quiet (fail); try go_wp2)
              go_ret
              exact ⟨by first | rfl | (simp [errW_none, errW_some] <;> rfl) | (simp [*, errW_none, errW_some] <;> rfl), by repeat (first | (with_reducible first | exact HI0.out | apply IsS116.alloc | apply IsS116.drewN | apply IsS116.drew | apply IsS116.set_1 | apply IsS116.set_2) | exact HI0.out), by repeat (first | (with_reducible first | exact HB.out | apply below_alloc | apply pw_below_drewN | apply below_drew1 | refine below_set ?_ (IsS116.ge HI0.out)) | exact HB.out), by repeat (first | (with_reducible first | exact HK.out | apply KeepBut.set_ | apply keep_drewN | apply keep_drew | apply keep_alloc) | exact HK.out)⟩
        · rw [if_neg c6] at H
          have c6b0 : decide (256 < a1) = false := decide_eq_false c6
          clear c6
          by_cases c14 : a1 = 0
          · rw [if_pos c14] at H
            exact absurd H (by simp)
          · rw [if_neg c14] at H
            have c14b0 : (a1 == 0) = false := beq_eq_false_iff_ne.mpr c14
            have c14b1 : (a1 != 0) = true := bne_iff_ne.mpr c14
            simp only [Option.some.injEq, Prod.mk.injEq] at H
            obtain ⟨rfl, rfl, rfl⟩ := H
            obtain ⟨ASz15_0, cSz15_0, HGz15, hgz15, HSz15_0⟩ := HI0.out
            have hcz15_0 := cellS116_0 HGz15
            have hcz15_1 := cellS116_1 HGz15
            have hcz15_2 := cellS116_2 HGz15
            have hfz15_1 := blk_frozen HGz15 1
            have hfz15_2 := blk_frozen HGz15 2
            clear HGz15 hgz15
            have p224 : 0 ≤ (s0_1 : Int) := of_decide_eq_true (by first | (with_reducible assumption) | assumption)
            have q224 : s0_1 < (s0_0.length : Int) := of_decide_eq_true (by first | (with_reducible assumption) | assumption)
            obtain ⟨ad224, e224, hx224_0⟩ := Kd.at_int HSz15_0 s0_1 p224 q224
            cases e224
            replace hx224_0 := pw_cell_below HB.out hx224_0
            replace p224 := eq_true p224
            replace q224 := eq_true q224
            go_enter Try.func81, Try.ntmps81
            go_wp2
            repeat (go_quiet (fail); try go_wp2)
            go_ret
            exact ⟨by first | rfl | (simp [errW_none, errW_some] <;> rfl) | (simp [*, errW_none, errW_some] <;> rfl), by repeat (first | (with_reducible first | exact HI0.out | apply IsS116.alloc | apply IsS116.drewN | apply IsS116.drew | apply IsS116.set_1 | apply IsS116.set_2) | exact HI0.out), by repeat (first | (with_reducible first | exact HB.out | apply below_alloc | apply pw_below_drewN | apply below_drew1 | refine below_set ?_ (IsS116.ge HI0.out)) | exact HB.out), by repeat (first | (with_reducible first | exact HK.out | apply KeepBut.set_ | apply keep_drewN | apply keep_drew | apply keep_alloc) | exact HK.out)⟩
      · rw [if_neg c5] at H
        exact absurd H (by simp)
    · rw [if_neg c4] at H
      have c4b0 : decide (s0_1 < (s0_0.length : Int)) = false := decide_eq_false c4
      clear c4
      by_cases c16 : (s0_0.length : Int) > 0
      · rw [if_pos c16] at H
        have c16b0 : decide (0 < (s0_0.length : Int)) = true := decide_eq_true c16
        have c16b1 : decide (0 < s0_0.length) = true := decide_eq_true (by omega)
        clear c16
        by_cases c17 : (s0_0.length : Int) = 0
        · rw [if_pos c17] at H
          exact absurd H (by simp)
        · rw [if_neg c17] at H
          have c17b0 : ((s0_0.length : Int) == 0) = false := beq_eq_false_iff_ne.mpr c17
          have c17b1 : ((s0_0.length : Int) != 0) = true := bne_iff_ne.mpr c17
          have c17b2 : ¬ (s0_0 = []) := fun h_ => c17 (by rw [h_]; rfl)
          obtain ⟨ji18, hji18⟩ : ∃ j_ : Int, (Int.tmod s0_1 (s0_0.length : Int)) = j_ := ⟨_, rfl⟩
          replace H : (if 0 ≤ (ji18) then (if (ji18) < (s0_0.length : Int) then (if a1 = 0 then (none) else (some (Int.tmod (wrap64 ((wrap64 (Int.tdiv (Int.tmod (wrap64 ((wrap64 (s0_2 * 1103)) + 12345)) 65521) 3)) + (wrap64 (rd s0_0 (ji18))))) a1, wrap64 (s0_1 + 1), Int.tmod (wrap64 ((wrap64 (s0_2 * 1103)) + 12345)) 65521))) else (none)) else (none)) = some (r1, r2, r3) := by first | (rw [hji18] at H; exact H) | (simp only [hji18] at H ⊢; exact H)
          by_cases c19 : 0 ≤ (ji18)
          · rw [if_pos c19] at H
            have c19b0 : decide (0 ≤ (ji18)) = true := decide_eq_true c19
            clear c19
            by_cases c20 : (ji18) < (s0_0.length : Int)
            · rw [if_pos c20] at H
              have c20b0 : decide ((ji18) < (s0_0.length : Int)) = true := decide_eq_true c20
              clear c20
              by_cases c21 : a1 = 0
              · rw [if_pos c21] at H
                exact absurd H (by simp)
              · rw [if_neg c21] at H
                have c21b0 : (a1 == 0) = false := beq_eq_false_iff_ne.mpr c21
                have c21b1 : (a1 != 0) = true := bne_iff_ne.mpr c21
                simp only [Option.some.injEq, Prod.mk.injEq] at H
                obtain ⟨rfl, rfl, rfl⟩ := H
                obtain ⟨ASz22_0, cSz22_0, HGz22, hgz22, HSz22_0⟩ := HI0.out
                have hcz22_0 := cellS116_0 HGz22
                have hcz22_1 := cellS116_1 HGz22
                have hcz22_2 := cellS116_2 HGz22
                have hfz22_1 := blk_frozen HGz22 1
                have hfz22_2 := blk_frozen HGz22 2
                clear HGz22 hgz22
                have p226 : 0 ≤ ((ji18) : Int) := of_decide_eq_true (by first | (with_reducible assumption) | assumption)
                have q226 : (ji18) < (s0_0.length : Int) := of_decide_eq_true (by first | (with_reducible assumption) | assumption)
                obtain ⟨ad226, e226, hx226_0⟩ := Kd.at_int HSz22_0 (ji18) p226 q226
                cases e226
                have hn226_0 : ad226.block ≠ g := Nat.ne_of_lt (Nat.lt_of_lt_of_le (by have := World.block_lt_of_cell? _ _ hx226_0; first | rwa [add_block] at this | exact this) (IsS116.ge HI0.out))
                replace hx226_0 := pw_cell_below HB.out hx226_0
                replace hx226_0 := (cell_far (p := ⟨g, 2, none⟩) (by first | (rw [add_block]; exact hn226_0) | (show (Addr.add _ _).block ≠ _; rw [add_block]; exact hn226_0) | exact hn226_0) (.int .i64 (Int.tmod (wrap64 ((wrap64 (s0_2 * 1103)) + 12345)) 65521))).trans hx226_0
                (try have hy226_0 := fun (n_ : Nat) => (show (((w.drewN n_).setCell ⟨g, 2, none⟩ (.int .i64 (Int.tmod (wrap64 ((wrap64 (s0_2 * 1103)) + 12345)) 65521)))).cell? _ = some _ from hx226_0))
                clear hn226_0
                replace p226 := eq_true p226
                replace q226 := eq_true q226
                go_enter Try.func81, Try.ntmps81
                go_wp2
                repeat (go_quiet (fail); try go_wp2)
                go_ret
                exact ⟨by first | rfl | (simp [errW_none, errW_some] <;> rfl) | (simp only [← hji18]; first | rfl | (simp [errW_none, errW_some] <;> rfl)) | (simp [*, errW_none, errW_some] <;> rfl), by repeat (first | (with_reducible first | exact HI0.out | apply IsS116.alloc | apply IsS116.drewN | apply IsS116.drew | apply IsS116.set_1 | apply IsS116.set_2) | exact HI0.out), by repeat (first | (with_reducible first | exact HB.out | apply below_alloc | apply pw_below_drewN | apply below_drew1 | refine below_set ?_ (IsS116.ge HI0.out)) | exact HB.out), by repeat (first | (with_reducible first | exact HK.out | apply KeepBut.set_ | apply keep_drewN | apply keep_drew | apply keep_alloc) | exact HK.out)⟩
            · rw [if_neg c20] at H
              exact absurd H (by simp)
          · rw [if_neg c19] at H
            exact absurd H (by simp)
      · rw [if_neg c16] at H
        have c16b0 : decide (0 < (s0_0.length : Int)) = false := decide_eq_false c16
        have c16b1 : decide (0 < s0_0.length) = false := decide_eq_false (by omega)
        clear c16
        by_cases c23 : a1 = 0
        · rw [if_pos c23] at H
          exact absurd H (by simp)
        · rw [if_neg c23] at H
          have c23b0 : (a1 == 0) = false := beq_eq_false_iff_ne.mpr c23
          have c23b1 : (a1 != 0) = true := bne_iff_ne.mpr c23
          simp only [Option.some.injEq, Prod.mk.injEq] at H
          obtain ⟨rfl, rfl, rfl⟩ := H
          obtain ⟨ASz24_0, cSz24_0, HGz24, hgz24, HSz24_0⟩ := HI0.out
          have hcz24_0 := cellS116_0 HGz24
          have hcz24_1 := cellS116_1 HGz24
          have hcz24_2 := cellS116_2 HGz24
          have hfz24_1 := blk_frozen HGz24 1
          have hfz24_2 := blk_frozen HGz24 2
          clear HGz24 hgz24
          go_enter Try.func81, Try.ntmps81
          go_wp2
          repeat (go_quiet (fail); try go_wp2)
          go_ret
          exact ⟨by first | rfl | (simp [errW_none, errW_some] <;> rfl) | (simp [*, errW_none, errW_some] <;> rfl), by repeat (first | (with_reducible first | exact HI0.out | apply IsS116.alloc | apply IsS116.drewN | apply IsS116.drew | apply IsS116.set_1 | apply IsS116.set_2) | exact HI0.out), by repeat (first | (with_reducible first | exact HB.out | apply below_alloc | apply pw_below_drewN | apply below_drew1 | refine below_set ?_ (IsS116.ge HI0.out)) | exact HB.out), by repeat (first | (with_reducible first | exact HK.out | apply KeepBut.set_ | apply keep_drewN | apply keep_drew | apply keep_alloc) | exact HK.out)⟩

theorem pick_p {code : List Int} {at_ seed n : Int} {m : Nat} (hc : CodeOk code) (h : CurOk m at_ seed) (hm : m ≤ 1152921504606846976) :
    ∃ x a s, spec_l01Cur_pick.f code at_ seed n = some (x, a, s) ∧ (0 ≤ x ∧ (x < n ∨ n < 2 ∧ x = 0)) ∧ CurOk (m + 2) a s := by
  obtain ⟨a0, a1, s0, s1⟩ := h
  have r := fun i => rd_range0 (l := code) hc.2 (by omega) (by omega) i
  have hl := hc.1
  unfold spec_l01Cur_pick.f
  by_cases h2 : n < 2
  · rw [if_pos h2]
    exact ⟨_, _, _, rfl, ⟨by omega, .inr ⟨h2, rfl⟩⟩, ⟨a0, by omega, s0, s1⟩⟩
  · rw [if_neg h2]
    have fin : ∀ (X a s : Int), 0 ≤ X → CurOk (m + 2) a s → ∃ x a' s', (if n = 0 then (none : Option (Int × Int × Int)) else (some (Int.tmod X n, a, s))) = some (x, a', s') ∧ (0 ≤ x ∧ (x < n ∨ n < 2 ∧ x = 0)) ∧ CurOk (m + 2) a' s' := fun X a s hX hk => by
      rw [if_neg (by omega)]
      have := tmod_range hX (show 0 < n by omega)
      exact ⟨_, _, _, rfl, ⟨this.1, .inl this.2⟩, hk⟩
    by_cases ha : at_ < (code.length : Int)
    · rw [if_pos ha, if_pos a0]
      have r0 := r at_
      rw [w64 (x := rd code at_) (by omega) (by omega), w64 (x := at_ + 1) (by omega) (by omega)]
      have one : ∃ x a' s', (if n = 0 then (none : Option (Int × Int × Int)) else (some (Int.tmod (rd code at_) n, at_ + 1, seed))) = some (x, a', s') ∧ (0 ≤ x ∧ (x < n ∨ n < 2 ∧ x = 0)) ∧ CurOk (m + 2) a' s' := fin _ _ _ r0.1 ⟨by omega, by omega, s0, s1⟩
      by_cases h3 : n > 256
      · rw [if_pos h3]
        by_cases h4 : at_ + 1 < (code.length : Int)
        · rw [if_pos h4, if_pos (by omega)]
          have r1 := r (at_ + 1)
          rw [w64 (x := rd code (at_ + 1)) (by omega) (by omega), w64 (x := 256 * rd code at_) (by omega) (by omega), w64 (x := 256 * rd code at_ + rd code (at_ + 1)) (by omega) (by omega), w64 (x := at_ + 1 + 1) (by omega) (by omega)]
          exact fin _ _ _ (by omega) ⟨by omega, by omega, s0, s1⟩
        · rw [if_neg h4]
          exact one
      · rw [if_neg h3]
        exact one
    · rw [if_neg ha]
      have t0 := tmod_range (a := seed * 1103 + 12345) (b := 65521) (by omega) (by omega)
      rw [w64 (x := seed * 1103) (by omega) (by omega), w64 (x := seed * 1103 + 12345) (by omega) (by omega), w64 (x := at_ + 1) (by omega) (by omega)]
      generalize Int.tmod (seed * 1103 + 12345) 65521 = S at t0 ⊢
      rw [tdiv3 t0.1, w64 (x := S / 3) (by omega) (by omega)]
      by_cases h5 : (code.length : Int) > 0
      · have t1 := tmod_range (a := at_) a0 h5
        rw [if_pos h5, if_neg (by omega), if_pos t1.1, if_pos t1.2]
        have r2 := r (Int.tmod at_ (code.length : Int))
        rw [w64 (x := rd code (Int.tmod at_ (code.length : Int))) (by omega) (by omega), w64 (x := S / 3 + rd code (Int.tmod at_ (code.length : Int))) (by omega) (by omega)]
        exact fin _ _ _ (by omega) ⟨by omega, by omega, by omega, by omega⟩
      · rw [if_neg h5]
        exact fin _ _ _ (by omega) ⟨by omega, by omega, by omega, by omega⟩
/-- A drawn number. -/
theorem pickP {code : List Int} {at_ seed n : Int} (m : Nat) (hc : CodeOk code) (h : CurOk m at_ seed) (hm : m ≤ 1152921504606846976) :
    EvP (fun _ => spec_l01Cur_pick.f code at_ seed n) (fun r => (0 ≤ r.1 ∧ (r.1 < n ∨ n < 2 ∧ r.1 = 0)) ∧ CurOk (m + 2) r.2.1 r.2.2) := by
  obtain ⟨x, a, s, e, hx, hk⟩ := pick_p (n := n) hc h hm
  exact evpNow e ⟨hx, hk⟩

/-! ### spec_l01Cur_odd: function 82 -/
def spec_l01Cur_odd.f (s0_0 : List Int) (s0_1 : Int) (s0_2 : Int) : Option (Int × Int × Int) := (some (([(-1), 0, 1, 2, 255, 256, 65535, 9223372036854775807, (-9223372036854775808), 17, 8, 12] : List Int) : List Int)).bind fun y227 => ((spec_l01Cur_pick.f s0_0 s0_1 s0_2 12).bind fun bt230 => (if 0 ≤ bt230.1 then (if bt230.1 < (y227.length : Int) then (some (rd y227 bt230.1, bt230.2.1, bt230.2.2)) else (none)) else (none)))
set_option maxHeartbeats 8000000 in
set_option maxRecDepth 100000 in
theorem spec_l01Cur_odd.calls (g : Nat) (s0_0 : List Int) (s0_1 : Int) (s0_2 : Int) (r1 : Int) (r2 : Int) (r3 : Int) (w0 w : World) (hI : IsS116 w0 w g s0_0 s0_1 s0_2) (hB : Below w0.heap.size w0 w) (h : spec_l01Cur_odd.f s0_0 s0_1 s0_2 = some (r1, r2, r3)) :
    Calls Try.prog 82 #[.pointer (some ⟨g, 0, none⟩)] w fun e w' => e = .returned (.int .i64 r1) ∧ IsS116 w0 w' g s0_0 r2 r3 ∧ Below w0.heap.size w0 w' ∧ KeepBut w w' g none := by
  have HI0 := Aside0.mk hI
  have HK := Aside0.mk (KeepBut.refl w g none)
  have HL := Aside0.mk hB.size
  clear hI
  have HW0 := Aside0.mk hB.size
  have HB := Aside0.mk hB
  clear hB
  have H : ((some (([(-1), 0, 1, 2, 255, 256, 65535, 9223372036854775807, (-9223372036854775808), 17, 8, 12] : List Int) : List Int)).bind fun y227 => ((spec_l01Cur_pick.f s0_0 s0_1 s0_2 12).bind fun bt230 => (if 0 ≤ bt230.1 then (if bt230.1 < (y227.length : Int) then (some (rd y227 bt230.1, bt230.2.1, bt230.2.2)) else (none)) else (none)))) = some (r1, r2, r3) := h
  clear h
  obtain ⟨y227, hy227⟩ : ∃ y_ : List Int, y_ = (([(-1), 0, 1, 2, 255, 256, 65535, 9223372036854775807, (-9223372036854775808), 17, 8, 12] : List Int)) := ⟨_, rfl⟩
  replace H : ((spec_l01Cur_pick.f s0_0 s0_1 s0_2 12).bind fun bt230 => (if 0 ≤ bt230.1 then (if bt230.1 < (y227.length : Int) then (some (rd y227 bt230.1, bt230.2.1, bt230.2.2)) else (none)) else (none))) = some (r1, r2, r3) := by first | (rw [hy227]; with_reducible exact H) | (have H2_ := (Option.bind_some _ _).symm.trans H; rw [hy227]; with_reducible exact H2_) | (have H2_ := (Option.bind_some _ _).symm.trans H; with_reducible exact H2_) | with_reducible exact H | (rw [hy227]; exact H) | exact H
  have Ny227 := Aside0.mk hy227
  clear hy227
  replace H := Option.bind_eq_some_iff.mp H
  obtain ⟨⟨t230, t231, t232⟩, A20, H⟩ := H
  replace H : (if 0 ≤ t230 then (if t230 < (y227.length : Int) then (some (rd y227 t230, t231, t232)) else (none)) else (none)) = some (r1, r2, r3) := H
  have A2 := Aside0.mk A20
  clear A20
  by_cases c3 : 0 ≤ t230
  · rw [if_pos c3] at H
    have c3b0 : decide (0 ≤ t230) = true := decide_eq_true c3
    clear c3
    by_cases c4 : t230 < (y227.length : Int)
    · rw [if_pos c4] at H
      have c4b0 : decide (t230 < (y227.length : Int)) = true := decide_eq_true c4
      clear c4
      simp only [Option.some.injEq, Prod.mk.injEq] at H
      obtain ⟨rfl, rfl, rfl⟩ := H
      go_enter Try.func82, Try.ntmps82
      go_wp2_with (first | ((with_reducible refine gate_dst (N := 3) rfl ?_); refine Kd.R_lit (Kd.int .i64) _ 3 ?hg (N := 3) ?hd (xs := ([(-1), 0, 1, 2, 255, 256, 65535, 9223372036854775807, (-9223372036854775808), 17, 8, 12] : List Int)) (inner := [.int .i64 (-1), .int .i64 0, .int .i64 1, .int .i64 2, .int .i64 255, .int .i64 256, .int .i64 65535, .int .i64 9223372036854775807, .int .i64 (-9223372036854775808), .int .i64 17, .int .i64 8, .int .i64 12]) (ok := fun _ => True) (okp := fun _ => True) ?hr ?hp (fun _ hk => hk) trivial (Below.refl _ _) (Nat.le_refl _) (by simp) ?_; (case hd => rfl); (case hg => rfl); (case hr => first | (go_simp; done) | (go_simp; rfl)); (case hp => exact (Reps.one (show Kd.M (Kd.int .i64) _ _ _ (-1) [.int .i64 (-1)] from rfl) (Reps.one (show Kd.M (Kd.int .i64) _ _ _ 0 [.int .i64 0] from rfl) (Reps.one (show Kd.M (Kd.int .i64) _ _ _ 1 [.int .i64 1] from rfl) (Reps.one (show Kd.M (Kd.int .i64) _ _ _ 2 [.int .i64 2] from rfl) (Reps.one (show Kd.M (Kd.int .i64) _ _ _ 255 [.int .i64 255] from rfl) (Reps.one (show Kd.M (Kd.int .i64) _ _ _ 256 [.int .i64 256] from rfl) (Reps.one (show Kd.M (Kd.int .i64) _ _ _ 65535 [.int .i64 65535] from rfl) (Reps.one (show Kd.M (Kd.int .i64) _ _ _ 9223372036854775807 [.int .i64 9223372036854775807] from rfl) (Reps.one (show Kd.M (Kd.int .i64) _ _ _ (-9223372036854775808) [.int .i64 (-9223372036854775808)] from rfl) (Reps.one (show Kd.M (Kd.int .i64) _ _ _ 17 [.int .i64 17] from rfl) (Reps.one (show Kd.M (Kd.int .i64) _ _ _ 8 [.int .i64 8] from rfl) (Reps.one (show Kd.M (Kd.int .i64) _ _ _ 12 [.int .i64 12] from rfl) (Reps.none _ _)))))))))))))); intro v228 w5 ho6 hb hg_ hnew_; clear hg_ hnew_; (first | rw [← Ny227.out] at ho6 | (simp only [Int.reduceToNat] at ho6; rw [← Ny227.out] at ho6)); have n0_ := Aside0.mk (Kd.R_lower ho6 (keep_size (w := w) (g := g) (row := none) (by repeat (first | (with_reducible first | exact HK.out | apply KeepBut.set_ | apply keep_drewN | apply keep_drew | apply keep_alloc) | exact HK.out)))); have n1_ := Aside0.mk (IsS116.below (by repeat (first | (with_reducible first | exact HI0.out | apply IsS116.alloc | apply IsS116.drewN | apply IsS116.drew | apply IsS116.set_1 | apply IsS116.set_2) | exact HI0.out)) hb); have n2_ := Aside0.mk (KeepBut.trans (by repeat (first | (with_reducible first | exact HK.out | apply KeepBut.set_ | apply keep_drewN | apply keep_drew | apply keep_alloc) | exact HK.out)) (KeepBut.of_below hb g none) (.inl rfl)); have n3_ := Aside0.mk (below_step (by repeat (first | (with_reducible first | exact HB.out | apply below_alloc | apply pw_below_drewN | apply below_drew1 | refine below_set ?_ (IsS116.ge HI0.out)) | exact HB.out)) hb); clear HI0; clear HK; clear HB; have HO229 := n0_; have HI0 := n1_; have HK := n2_; have HB := n3_; clear n0_ n1_ n2_ n3_; clear hb ho6) | ((with_reducible refine gate_callee (f := 81) rfl ?_); refine goesL_ (some 5) rfl rfl Try.func81 (by kernel_rfl) rfl #[.pointer (some ⟨g, 0, none⟩), .int .i64 12] rfl (by (try simp only [List.map_toArray, List.map_cons, List.map_nil]); first | done | rfl | (simp only [List.length_drop, List.length_take]; rfl)) ?_; (with_reducible refine (spec_l01Cur_pick.calls g s0_0 s0_1 s0_2 12 t230 t231 t232 w0 _ ?side1 ?side2 A2.out).mono ?_); (case side1 => repeat (first | (with_reducible first | exact HI0.out | apply IsS116.alloc | apply IsS116.drewN | apply IsS116.drew | apply IsS116.set_1 | apply IsS116.set_2) | exact HI0.out)); (case side2 => repeat (first | (with_reducible first | exact HB.out | apply below_alloc | apply pw_below_drewN | apply below_drew1 | refine below_set ?_ (IsS116.ge HI0.out)) | exact HB.out)); rintro e w7 ⟨rfl, hi, hb, hk⟩; refine ⟨_, rfl, ?_⟩; have n0_ := Aside0.mk (Kd.R_mono (Kd.R_keep (IsS116.apart (show IsS116 w0 _ g s0_0 s0_1 s0_2 from by repeat (first | (with_reducible first | exact HI0.out | apply IsS116.alloc | apply IsS116.drewN | apply IsS116.drew | apply IsS116.set_1 | apply IsS116.set_2) | exact HI0.out)) (by (with_reducible repeat (first | apply Kd.R_alloc | apply Kd.R_drewN | apply Kd.R_drew)); exact HO229.out) (by decide)) hk (fun _ h => h.2)) (fun _ h => h.1)); have n1_ := Aside0.mk (KeepBut.trans (by repeat (first | (with_reducible first | exact HK.out | apply KeepBut.set_ | apply keep_drewN | apply keep_drew | apply keep_alloc) | exact HK.out)) hk (.inl rfl)); have n2_ := Aside0.mk (hb); have n3_ := Aside0.mk (hi); clear HO229; clear HK; clear HB; clear HI0; have HO229 := n0_; have HK := n1_; have HB := n2_; have HI0 := n3_; clear n0_ n1_ n2_ n3_; (try clear hb); (try clear hb2); (try clear hk); (try clear hi); obtain ⟨Ao8, co8, eo8⟩ := Kd.R_slice HO229.out; subst eo8; have p233 : 0 ≤ (t230 : Int) := of_decide_eq_true (by first | (with_reducible assumption) | assumption); have q233 : t230 < (y227.length : Int) := of_decide_eq_true (by first | (with_reducible assumption) | assumption); obtain ⟨ad233, e233, hx233_0⟩ := Kd.at_int (Kd.R_reads' HO229.out).2.2 t230 p233 q233; cases e233; replace p233 := eq_true p233; replace q233 := eq_true q233))
      go_ret
      exact ⟨by first | rfl | (simp [errW_none, errW_some] <;> rfl) | (simp [*, errW_none, errW_some] <;> rfl), by repeat (first | (with_reducible first | exact HI0.out | apply IsS116.alloc | apply IsS116.drewN | apply IsS116.drew | apply IsS116.set_1 | apply IsS116.set_2) | exact HI0.out), by repeat (first | (with_reducible first | exact HB.out | apply below_alloc | apply pw_below_drewN | apply below_drew1 | refine below_set ?_ (IsS116.ge HI0.out)) | exact HB.out), by repeat (first | (with_reducible first | exact HK.out | apply KeepBut.set_ | apply keep_drewN | apply keep_drew | apply keep_alloc) | exact HK.out)⟩
    · rw [if_neg c4] at H
      exact absurd H (by simp)
  · rw [if_neg c3] at H
    exact absurd H (by simp)

theorem oddP {code : List Int} {at_ seed : Int} (m : Nat) (hc : CodeOk code) (h : CurOk m at_ seed) (hm : m ≤ 1152921504606846976) :
    EvP (fun _ => spec_l01Cur_odd.f code at_ seed) (fun r => (-9223372036854775808 ≤ r.1 ∧ r.1 ≤ 9223372036854775807) ∧ CurOk (m + 2) r.2.1 r.2.2) := by
  unfold spec_l01Cur_odd.f
  refine evpBind (evpNow rfl rfl) (fun y hy => ?_)
  subst hy
  refine evpBind (pickP m hc h hm) (fun b hb => evpPos hb.1.1 (evpPos (by simp; omega) (evpNow rfl ⟨?_, hb.2⟩)))
  exact rd_range0 (by simp) (by omega) (by omega) _

/-! ### spec_l01Cur_size: function 107 -/
def spec_l01Cur_size.f (s0_0 : List Int) (s0_1 : Int) (s0_2 : Int) (a1 : Int) : Option (Int × Int × Int) := if (wrap64 (1 + (wrap64 ((s0_0.length : Int) / 10)))) > a1 then ((spec_l01Cur_pick.f s0_0 s0_1 s0_2 (wrap64 (a1 + 1))).bind fun bt234 => (some (bt234.1, bt234.2.1, bt234.2.2))) else ((spec_l01Cur_pick.f s0_0 s0_1 s0_2 (wrap64 ((wrap64 (1 + (wrap64 ((s0_0.length : Int) / 10)))) + 1))).bind fun bt237 => (some (bt237.1, bt237.2.1, bt237.2.2)))
set_option maxHeartbeats 8000000 in
set_option maxRecDepth 100000 in
theorem spec_l01Cur_size.calls (g : Nat) (s0_0 : List Int) (s0_1 : Int) (s0_2 : Int) (a1 : Int) (r1 : Int) (r2 : Int) (r3 : Int) (w0 w : World) (hI : IsS116 w0 w g s0_0 s0_1 s0_2) (hB : Below w0.heap.size w0 w) (h : spec_l01Cur_size.f s0_0 s0_1 s0_2 a1 = some (r1, r2, r3)) :
    Calls Try.prog 107 #[.pointer (some ⟨g, 0, none⟩), .int .i64 a1] w fun e w' => e = .returned (.int .i64 r1) ∧ IsS116 w0 w' g s0_0 r2 r3 ∧ Below w0.heap.size w0 w' ∧ KeepBut w w' g none := by
  have HI0 := Aside0.mk hI
  have HK := Aside0.mk (KeepBut.refl w g none)
  have HL := Aside0.mk hB.size
  clear hI
  have HW0 := Aside0.mk hB.size
  have HB := Aside0.mk hB
  clear hB
  have H : (if (wrap64 (1 + (wrap64 ((s0_0.length : Int) / 10)))) > a1 then ((spec_l01Cur_pick.f s0_0 s0_1 s0_2 (wrap64 (a1 + 1))).bind fun bt234 => (some (bt234.1, bt234.2.1, bt234.2.2))) else ((spec_l01Cur_pick.f s0_0 s0_1 s0_2 (wrap64 ((wrap64 (1 + (wrap64 ((s0_0.length : Int) / 10)))) + 1))).bind fun bt237 => (some (bt237.1, bt237.2.1, bt237.2.2)))) = some (r1, r2, r3) := h
  clear h
  by_cases c3 : (wrap64 (1 + (wrap64 ((s0_0.length : Int) / 10)))) > a1
  · rw [if_pos c3] at H
    have c3b0 : decide (a1 < (wrap64 (1 + (wrap64 ((s0_0.length : Int) / 10))))) = true := decide_eq_true c3
    clear c3
    replace H := Option.bind_eq_some_iff.mp H
    obtain ⟨⟨t234, t235, t236⟩, A40, H⟩ := H
    replace H : (some (t234, t235, t236)) = some (r1, r2, r3) := H
    have A4 := Aside0.mk A40
    clear A40
    simp only [Option.some.injEq, Prod.mk.injEq] at H
    obtain ⟨rfl, rfl, rfl⟩ := H
    obtain ⟨ASz5_0, cSz5_0, HGz5, hgz5, HSz5_0⟩ := HI0.out
    have hcz5_0 := cellS116_0 HGz5
    have hcz5_1 := cellS116_1 HGz5
    have hcz5_2 := cellS116_2 HGz5
    have hfz5_1 := blk_frozen HGz5 1
    have hfz5_2 := blk_frozen HGz5 2
    clear HGz5 hgz5
    go_enter Try.func107, Try.ntmps107
    go_wp2_with (first | ((with_reducible refine gate_callee (f := 81) rfl ?_); refine goesL_ (some 20) rfl rfl Try.func81 (by kernel_rfl) rfl #[.pointer (some ⟨g, 0, none⟩), .int .i64 (wrap64 (a1 + 1))] rfl (by (try simp only [List.map_toArray, List.map_cons, List.map_nil]); first | done | rfl | (simp only [List.length_drop, List.length_take]; rfl)) ?_; (with_reducible refine (spec_l01Cur_pick.calls g s0_0 s0_1 s0_2 (wrap64 (a1 + 1)) t234 t235 t236 w0 _ ?side1 ?side2 A4.out).mono ?_); (case side1 => repeat (first | (with_reducible first | exact HI0.out | apply IsS116.alloc | apply IsS116.drewN | apply IsS116.drew | apply IsS116.set_1 | apply IsS116.set_2) | exact HI0.out)); (case side2 => repeat (first | (with_reducible first | exact HB.out | apply below_alloc | apply pw_below_drewN | apply below_drew1 | refine below_set ?_ (IsS116.ge HI0.out)) | exact HB.out)); rintro e w6 ⟨rfl, hi, hb, hk⟩; refine ⟨_, rfl, ?_⟩; have n0_ := Aside0.mk (KeepBut.trans (by repeat (first | (with_reducible first | exact HK.out | apply KeepBut.set_ | apply keep_drewN | apply keep_drew | apply keep_alloc) | exact HK.out)) hk (.inl rfl)); have n1_ := Aside0.mk (hb); have n2_ := Aside0.mk (hi); clear HK; clear HB; clear HI0; have HK := n0_; have HB := n1_; have HI0 := n2_; clear n0_ n1_ n2_; (try clear hb); (try clear hb2); (try clear hk); (try clear hi)))
    go_ret
    exact ⟨by first | rfl | (simp [errW_none, errW_some] <;> rfl) | (simp [*, errW_none, errW_some] <;> rfl), by repeat (first | (with_reducible first | exact HI0.out | apply IsS116.alloc | apply IsS116.drewN | apply IsS116.drew | apply IsS116.set_1 | apply IsS116.set_2) | exact HI0.out), by repeat (first | (with_reducible first | exact HB.out | apply below_alloc | apply pw_below_drewN | apply below_drew1 | refine below_set ?_ (IsS116.ge HI0.out)) | exact HB.out), by repeat (first | (with_reducible first | exact HK.out | apply KeepBut.set_ | apply keep_drewN | apply keep_drew | apply keep_alloc) | exact HK.out)⟩
  · rw [if_neg c3] at H
    have c3b0 : decide (a1 < (wrap64 (1 + (wrap64 ((s0_0.length : Int) / 10))))) = false := decide_eq_false c3
    clear c3
    replace H := Option.bind_eq_some_iff.mp H
    obtain ⟨⟨t237, t238, t239⟩, A70, H⟩ := H
    replace H : (some (t237, t238, t239)) = some (r1, r2, r3) := H
    have A7 := Aside0.mk A70
    clear A70
    simp only [Option.some.injEq, Prod.mk.injEq] at H
    obtain ⟨rfl, rfl, rfl⟩ := H
    obtain ⟨ASz8_0, cSz8_0, HGz8, hgz8, HSz8_0⟩ := HI0.out
    have hcz8_0 := cellS116_0 HGz8
    have hcz8_1 := cellS116_1 HGz8
    have hcz8_2 := cellS116_2 HGz8
    have hfz8_1 := blk_frozen HGz8 1
    have hfz8_2 := blk_frozen HGz8 2
    clear HGz8 hgz8
    go_enter Try.func107, Try.ntmps107
    go_wp2_with (first | ((with_reducible refine gate_callee (f := 81) rfl ?_); refine goesL_ (some 20) rfl rfl Try.func81 (by kernel_rfl) rfl #[.pointer (some ⟨g, 0, none⟩), .int .i64 (wrap64 ((wrap64 (1 + (wrap64 ((s0_0.length : Int) / 10)))) + 1))] rfl (by (try simp only [List.map_toArray, List.map_cons, List.map_nil]); first | done | rfl | (simp only [List.length_drop, List.length_take]; rfl)) ?_; (with_reducible refine (spec_l01Cur_pick.calls g s0_0 s0_1 s0_2 (wrap64 ((wrap64 (1 + (wrap64 ((s0_0.length : Int) / 10)))) + 1)) t237 t238 t239 w0 _ ?side1 ?side2 A7.out).mono ?_); (case side1 => repeat (first | (with_reducible first | exact HI0.out | apply IsS116.alloc | apply IsS116.drewN | apply IsS116.drew | apply IsS116.set_1 | apply IsS116.set_2) | exact HI0.out)); (case side2 => repeat (first | (with_reducible first | exact HB.out | apply below_alloc | apply pw_below_drewN | apply below_drew1 | refine below_set ?_ (IsS116.ge HI0.out)) | exact HB.out)); rintro e w9 ⟨rfl, hi, hb, hk⟩; refine ⟨_, rfl, ?_⟩; have n0_ := Aside0.mk (KeepBut.trans (by repeat (first | (with_reducible first | exact HK.out | apply KeepBut.set_ | apply keep_drewN | apply keep_drew | apply keep_alloc) | exact HK.out)) hk (.inl rfl)); have n1_ := Aside0.mk (hb); have n2_ := Aside0.mk (hi); clear HK; clear HB; clear HI0; have HK := n0_; have HB := n1_; have HI0 := n2_; clear n0_ n1_ n2_; (try clear hb); (try clear hb2); (try clear hk); (try clear hi)))
    go_ret
    exact ⟨by first | rfl | (simp [errW_none, errW_some] <;> rfl) | (simp [*, errW_none, errW_some] <;> rfl), by repeat (first | (with_reducible first | exact HI0.out | apply IsS116.alloc | apply IsS116.drewN | apply IsS116.drew | apply IsS116.set_1 | apply IsS116.set_2) | exact HI0.out), by repeat (first | (with_reducible first | exact HB.out | apply below_alloc | apply pw_below_drewN | apply below_drew1 | refine below_set ?_ (IsS116.ge HI0.out)) | exact HB.out), by repeat (first | (with_reducible first | exact HK.out | apply KeepBut.set_ | apply keep_drewN | apply keep_drew | apply keep_alloc) | exact HK.out)⟩

end Go.Proofs.Ytdeheflbigggbaa.CX
