/- Functions that a law of this seat reaches: written by a program of this session (wip/xprint.py), and by hand. -/
import Derived.Test.YtimappilioaagaaCAx0
import Derived.Test.YtimappilioaagaaCAx1
import Derived.Test.YtimappilioaagaaCAx2
namespace Go.Proofs.Ytimappilioaagaa.CA
open Go.RowKit Go.Proofs.Ytimappilioaagaa.B Go.Proofs.YtimappilioaagaaW.PrintWords Go.Proofs.YtimappilioaagaaW.PrintLast Go.Proofs.YtimappilioaagaaW.PrintMore
attribute [local go_sem] max2_int min2_int max_two min_two max_three min_three max_four min_four   -- for this text's walks alone
set_option linter.unusedVariables false
set_option linter.unusedSimpArgs false

/-! ### impl_FromYcc: function 13 -/
def impl_FromYcc.f (k : Nat) (a0 : Int) (l1 : List Int) : Option (List Int) := (impl_isPixel.f k a0 l1).bind fun t162 => (if t162 = true then (if 0 < (l1.length : Int) then (if 1 < (l1.length : Int) then (if 2 < (l1.length : Int) then (if 0 ≤ (wrap64 (a0 - 1)) then ((impl_rounded.f (wrap64 (359 * (wrap64 ((rd l1 2) - (shl .i64 1 (wrap64 (a0 - 1))))))) 256).bind fun t166 => ((impl_brought.f a0 (wrap64 ((rd l1 0) + t166))).bind fun t167 => ((impl_rounded.f (wrap64 (454 * (wrap64 ((rd l1 1) - (shl .i64 1 (wrap64 (a0 - 1))))))) 256).bind fun t168 => ((impl_brought.f a0 (wrap64 ((rd l1 0) + t168))).bind fun t169 => ((impl_rounded.f (wrap64 ((wrap64 ((wrap64 (256 * (rd l1 0))) - (wrap64 (77 * t167)))) - (wrap64 (29 * t169)))) 150).bind fun t170 => ((impl_brought.f a0 t170).bind fun t171 => (some (([t167, t171, t169] : List Int))))))))) else (none)) else (none)) else (none)) else (none)) else (some ([] : List Int)))
theorem impl_FromYcc.mono : ∀ a0 a1 k, LeO (impl_FromYcc.f k a0 a1) (impl_FromYcc.f (k + 1) a0 a1) := by
  intro a0 a1 k
  unfold impl_FromYcc.f
  repeat' first
      | (with_reducible exact impl_isPixel.mono _ _ _)
      | (with_reducible exact LeO.refl _)
      | (with_reducible exact LeO.none _)
      | (with_reducible refine LeO.ite ?_ ?_)
      | (with_reducible refine LeO.bind ?_ (fun _ => ?_))
      | exact impl_isPixel.mono _ _ _
      | exact LeO.none _
      | refine LeO.ite ?_ ?_
      | refine LeO.bind ?_ (fun _ => ?_)
set_option maxHeartbeats 8000000 in
set_option maxRecDepth 100000 in
theorem impl_FromYcc.calls (k : Nat) (a0 : Int) (A1 : Option Addr) (c1 : Nat) (l1 : List Int) (r : List Int) (w : World) (hr1 : Kd.C (Kd.int .i64) w A1 l1.length l1) (hc1 : l1.length ≤ c1) (h : impl_FromYcc.f k a0 l1 = some r) :
    Calls Try.prog 13 #[.int .i64 a0, .slice A1 l1.length c1] w fun e w' => ∃ v0_ : Value, e = .returned (v0_) ∧ Kd.R (Kd.int .i64) 3 w' w.heap.size (fun _ => True) v0_ r ∧ Below w.heap.size w w' := by
  have HR1 := Aside0.mk hr1
  have HC1 := Aside0.mk hc1
  clear hr1 hc1
  have HB := Aside0.mk (Below.refl w.heap.size w)
  have H : ((impl_isPixel.f k a0 l1).bind fun t162 => (if t162 = true then (if 0 < (l1.length : Int) then (if 1 < (l1.length : Int) then (if 2 < (l1.length : Int) then (if 0 ≤ (wrap64 (a0 - 1)) then ((impl_rounded.f (wrap64 (359 * (wrap64 ((rd l1 2) - (shl .i64 1 (wrap64 (a0 - 1))))))) 256).bind fun t166 => ((impl_brought.f a0 (wrap64 ((rd l1 0) + t166))).bind fun t167 => ((impl_rounded.f (wrap64 (454 * (wrap64 ((rd l1 1) - (shl .i64 1 (wrap64 (a0 - 1))))))) 256).bind fun t168 => ((impl_brought.f a0 (wrap64 ((rd l1 0) + t168))).bind fun t169 => ((impl_rounded.f (wrap64 ((wrap64 ((wrap64 (256 * (rd l1 0))) - (wrap64 (77 * t167)))) - (wrap64 (29 * t169)))) 150).bind fun t170 => ((impl_brought.f a0 t170).bind fun t171 => (some (([t167, t171, t169] : List Int))))))))) else (none)) else (none)) else (none)) else (none)) else (some ([] : List Int)))) = some r := h
  clear h
  replace H := Option.bind_eq_some_iff.mp H
  obtain ⟨t162, A30, H⟩ := H
  replace H : (if t162 = true then (if 0 < (l1.length : Int) then (if 1 < (l1.length : Int) then (if 2 < (l1.length : Int) then (if 0 ≤ (wrap64 (a0 - 1)) then ((impl_rounded.f (wrap64 (359 * (wrap64 ((rd l1 2) - (shl .i64 1 (wrap64 (a0 - 1))))))) 256).bind fun t166 => ((impl_brought.f a0 (wrap64 ((rd l1 0) + t166))).bind fun t167 => ((impl_rounded.f (wrap64 (454 * (wrap64 ((rd l1 1) - (shl .i64 1 (wrap64 (a0 - 1))))))) 256).bind fun t168 => ((impl_brought.f a0 (wrap64 ((rd l1 0) + t168))).bind fun t169 => ((impl_rounded.f (wrap64 ((wrap64 ((wrap64 (256 * (rd l1 0))) - (wrap64 (77 * t167)))) - (wrap64 (29 * t169)))) 150).bind fun t170 => ((impl_brought.f a0 t170).bind fun t171 => (some (([t167, t171, t169] : List Int))))))))) else (none)) else (none)) else (none)) else (none)) else (some ([] : List Int))) = some r := H
  have A3 := Aside0.mk A30
  clear A30
  by_cases c4 : t162 = true
  · subst c4
    have H1 : (if 0 < (l1.length : Int) then (if 1 < (l1.length : Int) then (if 2 < (l1.length : Int) then (if 0 ≤ (wrap64 (a0 - 1)) then ((impl_rounded.f (wrap64 (359 * (wrap64 ((rd l1 2) - (shl .i64 1 (wrap64 (a0 - 1))))))) 256).bind fun t166 => ((impl_brought.f a0 (wrap64 ((rd l1 0) + t166))).bind fun t167 => ((impl_rounded.f (wrap64 (454 * (wrap64 ((rd l1 1) - (shl .i64 1 (wrap64 (a0 - 1))))))) 256).bind fun t168 => ((impl_brought.f a0 (wrap64 ((rd l1 0) + t168))).bind fun t169 => ((impl_rounded.f (wrap64 ((wrap64 ((wrap64 (256 * (rd l1 0))) - (wrap64 (77 * t167)))) - (wrap64 (29 * t169)))) 150).bind fun t170 => ((impl_brought.f a0 t170).bind fun t171 => (some (([t167, t171, t169] : List Int))))))))) else (none)) else (none)) else (none)) else (none)) = some r := by rw [if_pos rfl] at H; exact H
    clear H
    have H := H1
    clear H1
    by_cases c5 : 0 < (l1.length : Int)
    · rw [if_pos c5] at H
      have c5b0 : decide (0 < (l1.length : Int)) = true := decide_eq_true c5
      have c5b1 : decide (0 < l1.length) = true := decide_eq_true (by omega)
      clear c5
      by_cases c6 : 1 < (l1.length : Int)
      · rw [if_pos c6] at H
        have c6b0 : decide (1 < (l1.length : Int)) = true := decide_eq_true c6
        have c6b1 : decide (1 < l1.length) = true := decide_eq_true (by omega)
        clear c6
        by_cases c7 : 2 < (l1.length : Int)
        · rw [if_pos c7] at H
          have c7b0 : decide (2 < (l1.length : Int)) = true := decide_eq_true c7
          have c7b1 : decide (2 < l1.length) = true := decide_eq_true (by omega)
          clear c7
          obtain ⟨ji8, hji8⟩ : ∃ j_ : Int, (wrap64 (a0 - 1)) = j_ := ⟨_, rfl⟩
          replace H : (if 0 ≤ (ji8) then ((impl_rounded.f (wrap64 (359 * (wrap64 ((rd l1 2) - (shl .i64 1 (ji8)))))) 256).bind fun t166 => ((impl_brought.f a0 (wrap64 ((rd l1 0) + t166))).bind fun t167 => ((impl_rounded.f (wrap64 (454 * (wrap64 ((rd l1 1) - (shl .i64 1 (ji8)))))) 256).bind fun t168 => ((impl_brought.f a0 (wrap64 ((rd l1 0) + t168))).bind fun t169 => ((impl_rounded.f (wrap64 ((wrap64 ((wrap64 (256 * (rd l1 0))) - (wrap64 (77 * t167)))) - (wrap64 (29 * t169)))) 150).bind fun t170 => ((impl_brought.f a0 t170).bind fun t171 => (some (([t167, t171, t169] : List Int))))))))) else (none)) = some r := by first | (rw [hji8] at H; exact H) | (simp only [hji8] at H ⊢; exact H)
          (try rw [hji8] at A3)
          have hji8w : (IntKind.i64.wrap (a0 - 1)) = ji8 := (i64_w _).trans hji8
          by_cases c9 : 0 ≤ (ji8)
          · rw [if_pos c9] at H
            have c9b0 := eq_true c9
            have c9b1 : decide (0 ≤ (ji8)) = true := decide_eq_true c9
            clear c9
            obtain ⟨ji10, hji10⟩ : ∃ j_ : Int, (shl .i64 1 (ji8)) = j_ := ⟨_, rfl⟩
            replace H : ((impl_rounded.f (wrap64 (359 * (wrap64 ((rd l1 2) - (ji10))))) 256).bind fun t166 => ((impl_brought.f a0 (wrap64 ((rd l1 0) + t166))).bind fun t167 => ((impl_rounded.f (wrap64 (454 * (wrap64 ((rd l1 1) - (ji10))))) 256).bind fun t168 => ((impl_brought.f a0 (wrap64 ((rd l1 0) + t168))).bind fun t169 => ((impl_rounded.f (wrap64 ((wrap64 ((wrap64 (256 * (rd l1 0))) - (wrap64 (77 * t167)))) - (wrap64 (29 * t169)))) 150).bind fun t170 => ((impl_brought.f a0 t170).bind fun t171 => (some (([t167, t171, t169] : List Int))))))))) = some r := by first | (rw [hji10] at H; exact H) | (simp only [hji10] at H ⊢; exact H)
            (try rw [hji10] at A3)
            have hji10_ : (IntKind.i64.wrap (1 * 2 ^ min (ji8).toNat 64)) = ji10 := hji10
            have hji10z : (ji8) ≤ 64 → (IntKind.i64.wrap (1 * 2 ^ (ji8).toNat)) = ji10 := shl_small hji10
            have hji10u : (IntKind.i64.wrap (2 ^ min (ji8).toNat 64)) = ji10 := by have h_ := hji10_; rw [Int.one_mul] at h_; exact h_
            have hji10v : (ji8) ≤ 64 → (IntKind.i64.wrap (2 ^ (ji8).toNat)) = ji10 := fun hle_ => by have h_ := hji10z hle_; rw [Int.one_mul] at h_; exact h_
            have hji10y : (wrap64 (1 * 2 ^ min (ji8).toNat 64)) = ji10 := (i64_w _).symm.trans hji10_
            have hji10x : (ji8) ≤ 64 → (wrap64 (1 * 2 ^ (ji8).toNat)) = ji10 := fun h_ => (i64_w _).symm.trans (hji10z h_)
            replace H := Option.bind_eq_some_iff.mp H
            obtain ⟨t166, A110, H⟩ := H
            replace H : ((impl_brought.f a0 (wrap64 ((rd l1 0) + t166))).bind fun t167 => ((impl_rounded.f (wrap64 (454 * (wrap64 ((rd l1 1) - (ji10))))) 256).bind fun t168 => ((impl_brought.f a0 (wrap64 ((rd l1 0) + t168))).bind fun t169 => ((impl_rounded.f (wrap64 ((wrap64 ((wrap64 (256 * (rd l1 0))) - (wrap64 (77 * t167)))) - (wrap64 (29 * t169)))) 150).bind fun t170 => ((impl_brought.f a0 t170).bind fun t171 => (some (([t167, t171, t169] : List Int)))))))) = some r := H
            have A11 := Aside0.mk A110
            clear A110
            replace H := Option.bind_eq_some_iff.mp H
            obtain ⟨t167, A120, H⟩ := H
            replace H : ((impl_rounded.f (wrap64 (454 * (wrap64 ((rd l1 1) - (ji10))))) 256).bind fun t168 => ((impl_brought.f a0 (wrap64 ((rd l1 0) + t168))).bind fun t169 => ((impl_rounded.f (wrap64 ((wrap64 ((wrap64 (256 * (rd l1 0))) - (wrap64 (77 * t167)))) - (wrap64 (29 * t169)))) 150).bind fun t170 => ((impl_brought.f a0 t170).bind fun t171 => (some (([t167, t171, t169] : List Int))))))) = some r := H
            have A12 := Aside0.mk A120
            clear A120
            replace H := Option.bind_eq_some_iff.mp H
            obtain ⟨t168, A130, H⟩ := H
            replace H : ((impl_brought.f a0 (wrap64 ((rd l1 0) + t168))).bind fun t169 => ((impl_rounded.f (wrap64 ((wrap64 ((wrap64 (256 * (rd l1 0))) - (wrap64 (77 * t167)))) - (wrap64 (29 * t169)))) 150).bind fun t170 => ((impl_brought.f a0 t170).bind fun t171 => (some (([t167, t171, t169] : List Int)))))) = some r := H
            have A13 := Aside0.mk A130
            clear A130
            replace H := Option.bind_eq_some_iff.mp H
            obtain ⟨t169, A140, H⟩ := H
            replace H : ((impl_rounded.f (wrap64 ((wrap64 ((wrap64 (256 * (rd l1 0))) - (wrap64 (77 * t167)))) - (wrap64 (29 * t169)))) 150).bind fun t170 => ((impl_brought.f a0 t170).bind fun t171 => (some (([t167, t171, t169] : List Int))))) = some r := H
            have A14 := Aside0.mk A140
            clear A140
            replace H := Option.bind_eq_some_iff.mp H
            obtain ⟨t170, A150, H⟩ := H
            replace H : ((impl_brought.f a0 t170).bind fun t171 => (some (([t167, t171, t169] : List Int)))) = some r := H
            have A15 := Aside0.mk A150
            clear A150
            replace H := Option.bind_eq_some_iff.mp H
            obtain ⟨t171, A160, H⟩ := H
            replace H : (some (([t167, t171, t169] : List Int))) = some r := H
            have A16 := Aside0.mk A160
            clear A160
            obtain ⟨y172, hy172⟩ : ∃ y_ : List Int, y_ = (([t167, t171, t169] : List Int)) := ⟨_, rfl⟩
            replace H : (some y172) = some r := by first | (rw [hy172]; with_reducible exact H) | (have H2_ := (Option.bind_some _ _).symm.trans H; rw [hy172]; with_reducible exact H2_) | (have H2_ := (Option.bind_some _ _).symm.trans H; with_reducible exact H2_) | with_reducible exact H | (rw [hy172]; exact H) | exact H
            have Ny172 := Aside0.mk hy172
            clear hy172
            obtain rfl := Option.some.inj H
            go_enter Try.func13, Try.ntmps13
            go_wp2_with (first | (go_at_call 61; (with_reducible refine (impl_isPixel.calls k a0 _ _ l1 true _ ?side1 ?side2 A3.out).mono ?_); (case side1 => repeat (first | exact HR1.out | (with_reducible refine Kd.C_alloc ?_ _) | (with_reducible refine Kd.C_drewN ?_ _) | (with_reducible refine Kd.C_drew ?_))); (case side2 => exact HC1.out); rintro e w' ⟨rfl, ⟨nd, rfl⟩⟩; (try first | exact ⟨rfl, _, World.drewN_drewN _ _ _⟩ | exact ⟨rfl, _, Eq.trans (World.drewN_drewN _ _ _) (congrArg (World.drewN _) (Nat.add_assoc _ _ _))⟩); have p163 : 0 ≤ (0 : Int) := (by omega); have q163 : 0 < (l1.length : Int) := of_decide_eq_true (by first | (with_reducible assumption) | assumption); obtain ⟨ad163, e163, hx163_0⟩ := Kd.at_int HR1.out 0 p163 q163; cases e163; have qi163 : (0 < l1.length) = True := eq_true (by omega); (try rw [show ((0 : Int)).toNat = 0 from rfl] at hx163_0); (try rw [Addr.add_zero'] at hx163_0); replace p163 := eq_true p163; replace q163 := eq_true q163; have p164 : 0 ≤ (1 : Int) := (by omega); have q164 : 1 < (l1.length : Int) := of_decide_eq_true (by first | (with_reducible assumption) | assumption); obtain ⟨ad164, e164, hx164_0⟩ := Kd.at_int HR1.out 1 p164 q164; obtain rfl : ad163 = ad164 := (by injection e164); (try simp only [show (1 : Int).toNat = 1 from rfl, Nat.reduceMul, Nat.reduceEqDiff, Go.Addr.add, ↓reduceIte] at hx164_0); have qi164 : (1 < l1.length) = True := eq_true (by omega); (try rw [show ((1 : Int)).toNat = 1 from rfl] at hx164_0); replace p164 := eq_true p164; replace q164 := eq_true q164; have p165 : 0 ≤ (2 : Int) := (by omega); have q165 : 2 < (l1.length : Int) := of_decide_eq_true (by first | (with_reducible assumption) | assumption); obtain ⟨ad165, e165, hx165_0⟩ := Kd.at_int HR1.out 2 p165 q165; obtain rfl : ad163 = ad165 := (by injection e165); (try simp only [show (2 : Int).toNat = 2 from rfl, Nat.reduceMul, Nat.reduceEqDiff, Go.Addr.add, ↓reduceIte] at hx165_0); have qi165 : (2 < l1.length) = True := eq_true (by omega); (try rw [show ((2 : Int)).toNat = 2 from rfl] at hx165_0); replace p165 := eq_true p165; replace q165 := eq_true q165) | (go_at_call 63; (with_reducible refine (impl_rounded.calls (wrap64 (359 * (wrap64 ((rd l1 2) - (ji10))))) 256 t166 _ A11.out).mono ?_); rintro e w' ⟨rfl, ⟨nd, rfl⟩⟩; (try first | exact ⟨rfl, _, World.drewN_drewN _ _ _⟩ | exact ⟨rfl, _, Eq.trans (World.drewN_drewN _ _ _) (congrArg (World.drewN _) (Nat.add_assoc _ _ _))⟩)) | (go_at_call 62; (with_reducible refine (impl_brought.calls a0 (wrap64 ((rd l1 0) + t166)) t167 _ A12.out).mono ?_); rintro e w17 ⟨rfl, hb⟩; have n0_ := Aside0.mk (below_step (by repeat (first | (with_reducible first | exact HB.out | apply below_alloc | apply pw_below_drewN | apply below_drew1) | exact HB.out)) hb); clear HB; have HB := n0_; clear n0_; (try clear hb); (try clear hb2); (try clear hk); (try clear hi)) | (go_at_call 63; (with_reducible refine (impl_rounded.calls (wrap64 (454 * (wrap64 ((rd l1 1) - (ji10))))) 256 t168 _ A13.out).mono ?_); rintro e w' ⟨rfl, ⟨nd, rfl⟩⟩; (try first | exact ⟨rfl, _, World.drewN_drewN _ _ _⟩ | exact ⟨rfl, _, Eq.trans (World.drewN_drewN _ _ _) (congrArg (World.drewN _) (Nat.add_assoc _ _ _))⟩)) | (go_at_call 62; (with_reducible refine (impl_brought.calls a0 (wrap64 ((rd l1 0) + t168)) t169 _ A14.out).mono ?_); rintro e w18 ⟨rfl, hb⟩; have n0_ := Aside0.mk (below_step (by repeat (first | (with_reducible first | exact HB.out | apply below_alloc | apply pw_below_drewN | apply below_drew1) | exact HB.out)) hb); clear HB; have HB := n0_; clear n0_; (try clear hb); (try clear hb2); (try clear hk); (try clear hi)) | (go_at_call 63; (with_reducible refine (impl_rounded.calls (wrap64 ((wrap64 ((wrap64 (256 * (rd l1 0))) - (wrap64 (77 * t167)))) - (wrap64 (29 * t169)))) 150 t170 _ A15.out).mono ?_); rintro e w' ⟨rfl, ⟨nd, rfl⟩⟩; (try first | exact ⟨rfl, _, World.drewN_drewN _ _ _⟩ | exact ⟨rfl, _, Eq.trans (World.drewN_drewN _ _ _) (congrArg (World.drewN _) (Nat.add_assoc _ _ _))⟩)) | (go_at_call 62; (with_reducible refine (impl_brought.calls a0 t170 t171 _ A16.out).mono ?_); rintro e w19 ⟨rfl, hb⟩; have n0_ := Aside0.mk (below_step (by repeat (first | (with_reducible first | exact HB.out | apply below_alloc | apply pw_below_drewN | apply below_drew1) | exact HB.out)) hb); clear HB; have HB := n0_; clear n0_; (try clear hb); (try clear hb2); (try clear hk); (try clear hi)) | ((with_reducible refine gate_dst (N := 60) rfl ?_); refine Kd.R_lit (Kd.int .i64) _ 3 ?hg (N := 60) ?hd (xs := ([t167, t171, t169] : List Int)) (inner := [.int .i64 t167, .int .i64 t171, .int .i64 t169]) (ok := fun _ => True) (okp := fun _ => True) ?hr ?hp (fun _ hk => hk) trivial (Below.refl _ _) (Nat.le_refl _) (by simp) ?_; (case hd => rfl); (case hg => rfl); (case hr => first | (go_simp; done) | (go_simp; rfl)); (case hp => exact (Reps.one (show Kd.M (Kd.int .i64) _ _ _ t167 [.int .i64 t167] from rfl) (Reps.one (show Kd.M (Kd.int .i64) _ _ _ t171 [.int .i64 t171] from rfl) (Reps.one (show Kd.M (Kd.int .i64) _ _ _ t169 [.int .i64 t169] from rfl) (Reps.none _ _))))); intro v173 w20 ho21 hb hg_ hnew_; clear hg_ hnew_; (first | rw [← Ny172.out] at ho21 | (simp only [Int.reduceToNat] at ho21; rw [← Ny172.out] at ho21)); have n0_ := Aside0.mk (Kd.R_lower ho21 (below_size (by repeat (first | (with_reducible first | exact HB.out | apply below_alloc | apply pw_below_drewN | apply below_drew1) | exact HB.out)))); have n1_ := Aside0.mk (below_step (by repeat (first | (with_reducible first | exact HB.out | apply below_alloc | apply pw_below_drewN | apply below_drew1) | exact HB.out)) hb); clear HB; have HO174 := n0_; have HB := n1_; clear n0_ n1_; clear hb ho21))
            repeat (go_quiet (first | (go_at_call 61; (with_reducible refine (impl_isPixel.calls k a0 _ _ l1 true _ ?side1 ?side2 A3.out).mono ?_); (case side1 => repeat (first | exact HR1.out | (with_reducible refine Kd.C_alloc ?_ _) | (with_reducible refine Kd.C_drewN ?_ _) | (with_reducible refine Kd.C_drew ?_))); (case side2 => exact HC1.out); rintro e w' ⟨rfl, ⟨nd, rfl⟩⟩; (try first | exact ⟨rfl, _, World.drewN_drewN _ _ _⟩ | exact ⟨rfl, _, Eq.trans (World.drewN_drewN _ _ _) (congrArg (World.drewN _) (Nat.add_assoc _ _ _))⟩); have p163 : 0 ≤ (0 : Int) := (by omega); have q163 : 0 < (l1.length : Int) := of_decide_eq_true (by first | (with_reducible assumption) | assumption); obtain ⟨ad163, e163, hx163_0⟩ := Kd.at_int HR1.out 0 p163 q163; cases e163; have qi163 : (0 < l1.length) = True := eq_true (by omega); (try rw [show ((0 : Int)).toNat = 0 from rfl] at hx163_0); (try rw [Addr.add_zero'] at hx163_0); replace p163 := eq_true p163; replace q163 := eq_true q163; have p164 : 0 ≤ (1 : Int) := (by omega); have q164 : 1 < (l1.length : Int) := of_decide_eq_true (by first | (with_reducible assumption) | assumption); obtain ⟨ad164, e164, hx164_0⟩ := Kd.at_int HR1.out 1 p164 q164; obtain rfl : ad163 = ad164 := (by injection e164); (try simp only [show (1 : Int).toNat = 1 from rfl, Nat.reduceMul, Nat.reduceEqDiff, Go.Addr.add, ↓reduceIte] at hx164_0); have qi164 : (1 < l1.length) = True := eq_true (by omega); (try rw [show ((1 : Int)).toNat = 1 from rfl] at hx164_0); replace p164 := eq_true p164; replace q164 := eq_true q164; have p165 : 0 ≤ (2 : Int) := (by omega); have q165 : 2 < (l1.length : Int) := of_decide_eq_true (by first | (with_reducible assumption) | assumption); obtain ⟨ad165, e165, hx165_0⟩ := Kd.at_int HR1.out 2 p165 q165; obtain rfl : ad163 = ad165 := (by injection e165); (try simp only [show (2 : Int).toNat = 2 from rfl, Nat.reduceMul, Nat.reduceEqDiff, Go.Addr.add, ↓reduceIte] at hx165_0); have qi165 : (2 < l1.length) = True := eq_true (by omega); (try rw [show ((2 : Int)).toNat = 2 from rfl] at hx165_0); replace p165 := eq_true p165; replace q165 := eq_true q165) | (go_at_call 63; (with_reducible refine (impl_rounded.calls (wrap64 (359 * (wrap64 ((rd l1 2) - (ji10))))) 256 t166 _ A11.out).mono ?_); rintro e w' ⟨rfl, ⟨nd, rfl⟩⟩; (try first | exact ⟨rfl, _, World.drewN_drewN _ _ _⟩ | exact ⟨rfl, _, Eq.trans (World.drewN_drewN _ _ _) (congrArg (World.drewN _) (Nat.add_assoc _ _ _))⟩)) | (go_at_call 62; (with_reducible refine (impl_brought.calls a0 (wrap64 ((rd l1 0) + t166)) t167 _ A12.out).mono ?_); rintro e w17 ⟨rfl, hb⟩; have n0_ := Aside0.mk (below_step (by repeat (first | (with_reducible first | exact HB.out | apply below_alloc | apply pw_below_drewN | apply below_drew1) | exact HB.out)) hb); clear HB; have HB := n0_; clear n0_; (try clear hb); (try clear hb2); (try clear hk); (try clear hi)) | (go_at_call 63; (with_reducible refine (impl_rounded.calls (wrap64 (454 * (wrap64 ((rd l1 1) - (ji10))))) 256 t168 _ A13.out).mono ?_); rintro e w' ⟨rfl, ⟨nd, rfl⟩⟩; (try first | exact ⟨rfl, _, World.drewN_drewN _ _ _⟩ | exact ⟨rfl, _, Eq.trans (World.drewN_drewN _ _ _) (congrArg (World.drewN _) (Nat.add_assoc _ _ _))⟩)) | (go_at_call 62; (with_reducible refine (impl_brought.calls a0 (wrap64 ((rd l1 0) + t168)) t169 _ A14.out).mono ?_); rintro e w18 ⟨rfl, hb⟩; have n0_ := Aside0.mk (below_step (by repeat (first | (with_reducible first | exact HB.out | apply below_alloc | apply pw_below_drewN | apply below_drew1) | exact HB.out)) hb); clear HB; have HB := n0_; clear n0_; (try clear hb); (try clear hb2); (try clear hk); (try clear hi)) | (go_at_call 63; (with_reducible refine (impl_rounded.calls (wrap64 ((wrap64 ((wrap64 (256 * (rd l1 0))) - (wrap64 (77 * t167)))) - (wrap64 (29 * t169)))) 150 t170 _ A15.out).mono ?_); rintro e w' ⟨rfl, ⟨nd, rfl⟩⟩; (try first | exact ⟨rfl, _, World.drewN_drewN _ _ _⟩ | exact ⟨rfl, _, Eq.trans (World.drewN_drewN _ _ _) (congrArg (World.drewN _) (Nat.add_assoc _ _ _))⟩)) | (go_at_call 62; (with_reducible refine (impl_brought.calls a0 t170 t171 _ A16.out).mono ?_); rintro e w19 ⟨rfl, hb⟩; have n0_ := Aside0.mk (below_step (by repeat (first | (with_reducible first | exact HB.out | apply below_alloc | apply pw_below_drewN | apply below_drew1) | exact HB.out)) hb); clear HB; have HB := n0_; clear n0_; (try clear hb); (try clear hb2); (try clear hk); (try clear hi)) | ((with_reducible refine gate_dst (N := 60) rfl ?_); refine Kd.R_lit (Kd.int .i64) _ 3 ?hg (N := 60) ?hd (xs := ([t167, t171, t169] : List Int)) (inner := [.int .i64 t167, .int .i64 t171, .int .i64 t169]) (ok := fun _ => True) (okp := fun _ => True) ?hr ?hp (fun _ hk => hk) trivial (Below.refl _ _) (Nat.le_refl _) (by simp) ?_; (case hd => rfl); (case hg => rfl); (case hr => first | (go_simp; done) | (go_simp; rfl)); (case hp => exact (Reps.one (show Kd.M (Kd.int .i64) _ _ _ t167 [.int .i64 t167] from rfl) (Reps.one (show Kd.M (Kd.int .i64) _ _ _ t171 [.int .i64 t171] from rfl) (Reps.one (show Kd.M (Kd.int .i64) _ _ _ t169 [.int .i64 t169] from rfl) (Reps.none _ _))))); intro v173 w20 ho21 hb hg_ hnew_; clear hg_ hnew_; (first | rw [← Ny172.out] at ho21 | (simp only [Int.reduceToNat] at ho21; rw [← Ny172.out] at ho21)); have n0_ := Aside0.mk (Kd.R_lower ho21 (below_size (by repeat (first | (with_reducible first | exact HB.out | apply below_alloc | apply pw_below_drewN | apply below_drew1) | exact HB.out)))); have n1_ := Aside0.mk (below_step (by repeat (first | (with_reducible first | exact HB.out | apply below_alloc | apply pw_below_drewN | apply below_drew1) | exact HB.out)) hb); clear HB; have HO174 := n0_; have HB := n1_; clear n0_ n1_; clear hb ho21)); try go_wp2_with (first | (go_at_call 61; (with_reducible refine (impl_isPixel.calls k a0 _ _ l1 true _ ?side1 ?side2 A3.out).mono ?_); (case side1 => repeat (first | exact HR1.out | (with_reducible refine Kd.C_alloc ?_ _) | (with_reducible refine Kd.C_drewN ?_ _) | (with_reducible refine Kd.C_drew ?_))); (case side2 => exact HC1.out); rintro e w' ⟨rfl, ⟨nd, rfl⟩⟩; (try first | exact ⟨rfl, _, World.drewN_drewN _ _ _⟩ | exact ⟨rfl, _, Eq.trans (World.drewN_drewN _ _ _) (congrArg (World.drewN _) (Nat.add_assoc _ _ _))⟩); have p163 : 0 ≤ (0 : Int) := (by omega); have q163 : 0 < (l1.length : Int) := of_decide_eq_true (by first | (with_reducible assumption) | assumption); obtain ⟨ad163, e163, hx163_0⟩ := Kd.at_int HR1.out 0 p163 q163; cases e163; have qi163 : (0 < l1.length) = True := eq_true (by omega); (try rw [show ((0 : Int)).toNat = 0 from rfl] at hx163_0); (try rw [Addr.add_zero'] at hx163_0); replace p163 := eq_true p163; replace q163 := eq_true q163; have p164 : 0 ≤ (1 : Int) := (by omega); have q164 : 1 < (l1.length : Int) := of_decide_eq_true (by first | (with_reducible assumption) | assumption); obtain ⟨ad164, e164, hx164_0⟩ := Kd.at_int HR1.out 1 p164 q164; obtain rfl : ad163 = ad164 := (by injection e164); (try simp only [show (1 : Int).toNat = 1 from rfl, Nat.reduceMul, Nat.reduceEqDiff, Go.Addr.add, ↓reduceIte] at hx164_0); have qi164 : (1 < l1.length) = True := eq_true (by omega); (try rw [show ((1 : Int)).toNat = 1 from rfl] at hx164_0); replace p164 := eq_true p164; replace q164 := eq_true q164; have p165 : 0 ≤ (2 : Int) := (by omega); have q165 : 2 < (l1.length : Int) := of_decide_eq_true (by first | (with_reducible assumption) | assumption); obtain ⟨ad165, e165, hx165_0⟩ := Kd.at_int HR1.out 2 p165 q165; obtain rfl : ad163 = ad165 := (by injection e165); (try simp only [show (2 : Int).toNat = 2 from rfl, Nat.reduceMul, Nat.reduceEqDiff, Go.Addr.add, ↓reduceIte] at hx165_0); have qi165 : (2 < l1.length) = True := eq_true (by omega); (try rw [show ((2 : Int)).toNat = 2 from rfl] at hx165_0); replace p165 := eq_true p165; replace q165 := eq_true q165) | (go_at_call 63; (with_reducible refine (impl_rounded.calls (wrap64 (359 * (wrap64 ((rd l1 2) - (ji10))))) 256 t166 _ A11.out).mono ?_); rintro e w' ⟨rfl, ⟨nd, rfl⟩⟩; (try first | exact ⟨rfl, _, World.drewN_drewN _ _ _⟩ | exact ⟨rfl, _, Eq.trans (World.drewN_drewN _ _ _) (congrArg (World.drewN _) (Nat.add_assoc _ _ _))⟩)) | (go_at_call 62; (with_reducible refine (impl_brought.calls a0 (wrap64 ((rd l1 0) + t166)) t167 _ A12.out).mono ?_); rintro e w17 ⟨rfl, hb⟩; have n0_ := Aside0.mk (below_step (by repeat (first | (with_reducible first | exact HB.out | apply below_alloc | apply pw_below_drewN | apply below_drew1) | exact HB.out)) hb); clear HB; have HB := n0_; clear n0_; (try clear hb); (try clear hb2); (try clear hk); (try clear hi)) | (go_at_call 63; (with_reducible refine (impl_rounded.calls (wrap64 (454 * (wrap64 ((rd l1 1) - (ji10))))) 256 t168 _ A13.out).mono ?_); rintro e w' ⟨rfl, ⟨nd, rfl⟩⟩; (try first | exact ⟨rfl, _, World.drewN_drewN _ _ _⟩ | exact ⟨rfl, _, Eq.trans (World.drewN_drewN _ _ _) (congrArg (World.drewN _) (Nat.add_assoc _ _ _))⟩)) | (go_at_call 62; (with_reducible refine (impl_brought.calls a0 (wrap64 ((rd l1 0) + t168)) t169 _ A14.out).mono ?_); rintro e w18 ⟨rfl, hb⟩; have n0_ := Aside0.mk (below_step (by repeat (first | (with_reducible first | exact HB.out | apply below_alloc | apply pw_below_drewN | apply below_drew1) | exact HB.out)) hb); clear HB; have HB := n0_; clear n0_; (try clear hb); (try clear hb2); (try clear hk); (try clear hi)) | (go_at_call 63; (with_reducible refine (impl_rounded.calls (wrap64 ((wrap64 ((wrap64 (256 * (rd l1 0))) - (wrap64 (77 * t167)))) - (wrap64 (29 * t169)))) 150 t170 _ A15.out).mono ?_); rintro e w' ⟨rfl, ⟨nd, rfl⟩⟩; (try first | exact ⟨rfl, _, World.drewN_drewN _ _ _⟩ | exact ⟨rfl, _, Eq.trans (World.drewN_drewN _ _ _) (congrArg (World.drewN _) (Nat.add_assoc _ _ _))⟩)) | (go_at_call 62; (with_reducible refine (impl_brought.calls a0 t170 t171 _ A16.out).mono ?_); rintro e w19 ⟨rfl, hb⟩; have n0_ := Aside0.mk (below_step (by repeat (first | (with_reducible first | exact HB.out | apply below_alloc | apply pw_below_drewN | apply below_drew1) | exact HB.out)) hb); clear HB; have HB := n0_; clear n0_; (try clear hb); (try clear hb2); (try clear hk); (try clear hi)) | ((with_reducible refine gate_dst (N := 60) rfl ?_); refine Kd.R_lit (Kd.int .i64) _ 3 ?hg (N := 60) ?hd (xs := ([t167, t171, t169] : List Int)) (inner := [.int .i64 t167, .int .i64 t171, .int .i64 t169]) (ok := fun _ => True) (okp := fun _ => True) ?hr ?hp (fun _ hk => hk) trivial (Below.refl _ _) (Nat.le_refl _) (by simp) ?_; (case hd => rfl); (case hg => rfl); (case hr => first | (go_simp; done) | (go_simp; rfl)); (case hp => exact (Reps.one (show Kd.M (Kd.int .i64) _ _ _ t167 [.int .i64 t167] from rfl) (Reps.one (show Kd.M (Kd.int .i64) _ _ _ t171 [.int .i64 t171] from rfl) (Reps.one (show Kd.M (Kd.int .i64) _ _ _ t169 [.int .i64 t169] from rfl) (Reps.none _ _))))); intro v173 w20 ho21 hb hg_ hnew_; clear hg_ hnew_; (first | rw [← Ny172.out] at ho21 | (simp only [Int.reduceToNat] at ho21; rw [← Ny172.out] at ho21)); have n0_ := Aside0.mk (Kd.R_lower ho21 (below_size (by repeat (first | (with_reducible first | exact HB.out | apply below_alloc | apply pw_below_drewN | apply below_drew1) | exact HB.out)))); have n1_ := Aside0.mk (below_step (by repeat (first | (with_reducible first | exact HB.out | apply below_alloc | apply pw_below_drewN | apply below_drew1) | exact HB.out)) hb); clear HB; have HO174 := n0_; have HB := n1_; clear n0_ n1_; clear hb ho21)))
            go_ret
            exact ⟨_, by first | rfl | (simp [errW_none, errW_some] <;> rfl) | (simp only [← hji8, ← hji10]; first | rfl | (simp [errW_none, errW_some] <;> rfl)) | (simp [*, errW_none, errW_some] <;> rfl), by (with_reducible repeat (first | apply Kd.R_alloc | apply Kd.R_drewN | apply Kd.R_drew)); exact HO174.out, by repeat (first | (with_reducible first | exact HB.out | apply below_alloc | apply pw_below_drewN | apply below_drew1) | exact HB.out)⟩
          · rw [if_neg c9] at H
            exact absurd H (by simp)
        · rw [if_neg c7] at H
          exact absurd H (by simp)
      · rw [if_neg c6] at H
        exact absurd H (by simp)
    · rw [if_neg c5] at H
      exact absurd H (by simp)
  · replace c4 := Bool.eq_false_iff.mpr c4
    subst c4
    have H1 : (some ([] : List Int)) = some r := by rw [if_neg (show ¬ (false = true) by decide)] at H; exact H
    clear H
    have H := H1
    clear H1
    obtain rfl := Option.some.inj H
    go_enter Try.func13, Try.ntmps13
    go_wp2_with (first | (go_at_call 61; (with_reducible refine (impl_isPixel.calls k a0 _ _ l1 false _ ?side1 ?side2 A3.out).mono ?_); (case side1 => repeat (first | exact HR1.out | (with_reducible refine Kd.C_alloc ?_ _) | (with_reducible refine Kd.C_drewN ?_ _) | (with_reducible refine Kd.C_drew ?_))); (case side2 => exact HC1.out); rintro e w' ⟨rfl, ⟨nd, rfl⟩⟩; (try first | exact ⟨rfl, _, World.drewN_drewN _ _ _⟩ | exact ⟨rfl, _, Eq.trans (World.drewN_drewN _ _ _) (congrArg (World.drewN _) (Nat.add_assoc _ _ _))⟩)))
    repeat (go_quiet (first | (go_at_call 61; (with_reducible refine (impl_isPixel.calls k a0 _ _ l1 false _ ?side1 ?side2 A3.out).mono ?_); (case side1 => repeat (first | exact HR1.out | (with_reducible refine Kd.C_alloc ?_ _) | (with_reducible refine Kd.C_drewN ?_ _) | (with_reducible refine Kd.C_drew ?_))); (case side2 => exact HC1.out); rintro e w' ⟨rfl, ⟨nd, rfl⟩⟩; (try first | exact ⟨rfl, _, World.drewN_drewN _ _ _⟩ | exact ⟨rfl, _, Eq.trans (World.drewN_drewN _ _ _) (congrArg (World.drewN _) (Nat.add_assoc _ _ _))⟩))); try go_wp2_with (first | (go_at_call 61; (with_reducible refine (impl_isPixel.calls k a0 _ _ l1 false _ ?side1 ?side2 A3.out).mono ?_); (case side1 => repeat (first | exact HR1.out | (with_reducible refine Kd.C_alloc ?_ _) | (with_reducible refine Kd.C_drewN ?_ _) | (with_reducible refine Kd.C_drew ?_))); (case side2 => exact HC1.out); rintro e w' ⟨rfl, ⟨nd, rfl⟩⟩; (try first | exact ⟨rfl, _, World.drewN_drewN _ _ _⟩ | exact ⟨rfl, _, Eq.trans (World.drewN_drewN _ _ _) (congrArg (World.drewN _) (Nat.add_assoc _ _ _))⟩))))
    go_ret
    exact ⟨_, by first | rfl | (simp [errW_none, errW_some] <;> rfl) | (simp [*, errW_none, errW_some] <;> rfl), by first | exact Kd.R_nil _ _ _ _ _ | exact Kd.N_nil _ _ _ _ _ | exact Kd.V_nil _ _ _ _ _ | exact Kd.Q_nil _ _ _ _ _ | exact Kd.S_nil _ _ _ _ _, by repeat (first | (with_reducible first | exact HB.out | apply below_alloc | apply pw_below_drewN | apply below_drew1) | exact HB.out)⟩

/-- A pixel, out of brightness and colour. -/
def frR (p : Int) (l : List Int) : Int := clipI (rd l 0 + rnd (359 * (rd l 2 - halfP p)) 256) 0 (topP p)
def frB (p : Int) (l : List Int) : Int := clipI (rd l 0 + rnd (454 * (rd l 1 - halfP p)) 256) 0 (topP p)
def frG (p : Int) (l : List Int) : Int := clipI (rnd (256 * rd l 0 - 77 * frR p l - 29 * frB p l) 150) 0 (topP p)
def fromYccL (p : Int) (l : List Int) : List Int := [frR p l, frG p l, frB p l]
def fromYccI (p : Int) (l : List Int) : List Int := if pixB p l = true then fromYccL p l else []
theorem fr_range (p : Int) (l : List Int) : (0 ≤ frR p l ∧ frR p l ≤ topP p) ∧ (0 ≤ frB p l ∧ frB p l ≤ topP p) ∧ (0 ≤ frG p l ∧ frG p l ≤ topP p) := by
  have ht := topP_pos p
  exact ⟨clipI_range (by omega), clipI_range (by omega), clipI_range (by omega)⟩
theorem rnd_range2 {n : Int} (b : Int) (h0 : -b ≤ n) (h1 : n ≤ b) (hb : 0 ≤ b) : -b - 1 ≤ rnd n 256 ∧ rnd n 256 ≤ b + 1 := by
  unfold rnd
  omega
theorem iFromYcc_f (p : Int) (l : List Int) (hl : l.length ≤ maxLen) : Ev (fun k => impl_FromYcc.f k p l) (fromYccI p l) := by
  unfold impl_FromYcc.f
  refine evBind (isPixel_f p l hl) (evIf (fun h => ?_) (fun h => ?_))
  · obtain ⟨hp, h3, hv⟩ := pixB_vals h
    have h0 := hv 0 (by omega) (by omega)
    have h1 := hv 1 (by omega) (by omega)
    have h2 := hv 2 (by omega) (by omega)
    have ht := topP_pos p
    have hh := halfP_pos p
    have hr := fr_range p l
    have ru := rnd_range2 (n := 359 * (rd l 2 - halfP p)) 3000000 (by omega) (by omega) (by omega)
    have rv := rnd_range2 (n := 454 * (rd l 1 - halfP p)) 3000000 (by omega) (by omega) (by omega)
    refine evPos (by omega) (evPos (by omega) (evPos (by omega) (evPos (by rw [w64 (by omega) (by omega)]; omega) ?_)))
    rw [shl_half hp, w64 (x := rd l 2 - halfP p) (by omega) (by omega), w64 (x := 359 * (rd l 2 - halfP p)) (by omega) (by omega), w64 (x := rd l 1 - halfP p) (by omega) (by omega), w64 (x := 454 * (rd l 1 - halfP p)) (by omega) (by omega)]
    refine evBind (evConst (rounded_f (by omega) (by omega) (by omega) (by omega))) ?_
    rw [w64 (x := rd l 0 + rnd (359 * (rd l 2 - halfP p)) 256) (by omega) (by omega)]
    refine evBind (evConst (brought_f hp)) (evBind (evConst (rounded_f (by omega) (by omega) (by omega) (by omega))) ?_)
    rw [w64 (x := rd l 0 + rnd (454 * (rd l 1 - halfP p)) 256) (by omega) (by omega)]
    refine evBind (evConst (brought_f hp)) ?_
    rw [show clipI (rd l 0 + rnd (359 * (rd l 2 - halfP p)) 256) 0 (topP p) = frR p l from rfl, show clipI (rd l 0 + rnd (454 * (rd l 1 - halfP p)) 256) 0 (topP p) = frB p l from rfl]
    rw [w64 (x := 256 * rd l 0) (by omega) (by omega), w64 (x := 77 * frR p l) (by omega) (by omega), w64 (x := 29 * frB p l) (by omega) (by omega), w64 (x := 256 * rd l 0 - 77 * frR p l) (by omega) (by omega), w64 (x := 256 * rd l 0 - 77 * frR p l - 29 * frB p l) (by omega) (by omega)]
    refine evBind (evConst (rounded_f (by omega) (by omega) (by omega) (by omega))) (evBind (evConst (brought_f hp)) ?_)
    unfold fromYccI fromYccL frG
    rw [if_pos h]
    exact Ev.now _
  · unfold fromYccI
    rw [if_neg h]
    exact Ev.now _

/-! ### spec_FromYcc: function 11 (by hand) -/
def spec_FromYcc.f (p : Int) (l : List Int) : Option (List Int) := some (fromYccI p l)
set_option maxHeartbeats 8000000 in
set_option maxRecDepth 100000 in
theorem spec_FromYcc.calls (a0 : Int) (A1 : Option Addr) (c1 : Nat) (l1 : List Int) (r : List Int) (w : World) (hr1 : Kd.C (Kd.int .i64) w A1 l1.length l1) (hc1 : l1.length ≤ c1) (h : spec_FromYcc.f a0 l1 = some r) :
    Calls Try.prog 11 #[.int .i64 a0, .slice A1 l1.length c1] w fun e w' => ∃ v0_ : Value, e = .returned (v0_) ∧ Kd.R (Kd.int .i64) 3 w' w.heap.size (fun _ => True) v0_ r ∧ Below w.heap.size w w' := by
  obtain rfl := Option.some.inj h
  clear h
  have HR := Aside0.mk hr1
  have HC := Aside0.mk hc1
  have HB := Aside0.mk (Below.refl w.heap.size w)
  clear hr1 hc1
  by_cases hp : pixB a0 l1 = true
  · obtain ⟨hp8, h3, hv⟩ := pixB_vals hp
    have q0 := hv 0 (by omega) (by omega)
    have q1 := hv 1 (by omega) (by omega)
    have q2 := hv 2 (by omega) (by omega)
    have ht := topP_pos a0
    have hh := halfP_pos a0
    have hr := fr_range a0 l1
    obtain ⟨ad, e1, x0, x1, x2⟩ := three_cells HR.out h3
    subst e1
    have HE := Aside0.mk (show fromYccI a0 l1 = [frR a0 l1, frG a0 l1, frB a0 l1] from by unfold fromYccI fromYccL; rw [if_pos hp])
    have HP := Aside0.mk hp
    have H8 := Aside0.mk hp8
    have HZ1 := Aside0.mk (show frR a0 l1 = clipI (rd l1 0 + rnd (359 * (rd l1 2 - halfP a0)) 256) 0 (topP a0) from rfl)
    have HZ2 := Aside0.mk (show frB a0 l1 = clipI (rd l1 0 + rnd (454 * (rd l1 1 - halfP a0)) 256) 0 (topP a0) from rfl)
    have HZ3 := Aside0.mk (show frG a0 l1 = clipI (rnd (256 * rd l1 0 - 77 * frR a0 l1 - 29 * frB a0 l1) 150) 0 (topP a0) from rfl)
    rw [HE.out]
    clear HE hp hp8 hv
    generalize rd l1 0 = p0 at *
    generalize rd l1 1 = p1 at *
    generalize rd l1 2 = p2 at *
    generalize hR : frR a0 l1 = fR at *
    generalize hB : frB a0 l1 = fB at *
    generalize hG : frG a0 l1 = fG at *
    obtain ⟨tp, TP⟩ : ∃ tp, Aside0 (tp = topP a0) := ⟨_, ⟨rfl⟩⟩
    obtain ⟨hf, HF⟩ : ∃ hf, Aside0 (hf = halfP a0) := ⟨_, ⟨rfl⟩⟩
    clear hR hB hG
    rw [← TP.out] at ht q0 q1 q2 hr HZ1 HZ2 HZ3
    rw [← HF.out] at hh HZ1 HZ2
    obtain ⟨u, UU⟩ : ∃ u, Aside0 (u = rnd (359 * (p2 - hf)) 256) := ⟨_, ⟨rfl⟩⟩
    obtain ⟨v, VV⟩ : ∃ v, Aside0 (v = rnd (454 * (p1 - hf)) 256) := ⟨_, ⟨rfl⟩⟩
    obtain ⟨z, ZZ⟩ : ∃ z, Aside0 (z = rnd (256 * p0 - 77 * fR - 29 * fB) 150) := ⟨_, ⟨rfl⟩⟩
    have ru := rnd_range2 (n := 359 * (p2 - hf)) 3000000 (by omega) (by omega) (by omega)
    have rv := rnd_range2 (n := 454 * (p1 - hf)) 3000000 (by omega) (by omega) (by omega)
    have C0 := fun W => (show Calls Try.prog 60 #[.int .i64 (359 * (p2 - hf)), .int .i64 256] W fun e w' => e = .returned (.int .i64 u) ∧ Drawn0 W w' from by rw [UU.out]; exact round_calls (by omega) (by omega) (by omega) (by omega) W)
    have C1 := fun W => (show Calls Try.prog 60 #[.int .i64 (454 * (p1 - hf)), .int .i64 256] W fun e w' => e = .returned (.int .i64 v) ∧ Drawn0 W w' from by rw [VV.out]; exact round_calls (by omega) (by omega) (by omega) (by omega) W)
    have C2 := fun W => (show Calls Try.prog 60 #[.int .i64 (256 * p0 - 77 * fR - 29 * fB), .int .i64 150] W fun e w' => e = .returned (.int .i64 z) ∧ Drawn0 W w' from by rw [ZZ.out]; exact round_calls (by omega) (by omega) (by omega) (by omega) W)
    have C3 := fun W => (show Calls Try.prog 59 #[.int .i64 (p0 + u), .int .i64 0, .int .i64 tp] W fun e w' => e = .returned (.int .i64 fR) ∧ Drawn0 W w' from by rw [HZ1.out, UU.out]; exact clip_calls _ _ _ W)
    have C4 := fun W => (show Calls Try.prog 59 #[.int .i64 (p0 + v), .int .i64 0, .int .i64 tp] W fun e w' => e = .returned (.int .i64 fB) ∧ Drawn0 W w' from by rw [HZ2.out, VV.out]; exact clip_calls _ _ _ W)
    have C5 := fun W => (show Calls Try.prog 59 #[.int .i64 z, .int .i64 0, .int .i64 tp] W fun e w' => e = .returned (.int .i64 fG) ∧ Drawn0 W w' from by rw [HZ3.out, ZZ.out]; exact clip_calls _ _ _ W)
    rw [← UU.out] at ru
    rw [← VV.out] at rv
    have K0 := Aside0.mk C0
    have K1 := Aside0.mk C1
    have K2 := Aside0.mk C2
    have K3 := Aside0.mk C3
    have K4 := Aside0.mk C4
    have K5 := Aside0.mk C5
    have g8 : 0 ≤ a0 := by have := H8.out; omega
    have g9 : 1 ≤ a0 := by have := H8.out; omega
    have g7 : a0 ≤ 12 := by have := H8.out; omega
    obtain ⟨⟨hr0, hr1⟩, ⟨hr2, hr3⟩, hr4, hr5⟩ := hr
    have n0 : 0 < (l1.length : Int) := by omega
    have n1 : 1 < (l1.length : Int) := by omega
    have n2 : 2 < (l1.length : Int) := by omega
    have i0 : 0 < l1.length := by omega
    have i1 : 1 < l1.length := by omega
    have i2 : 2 < l1.length := by omega
    clear C0 C1 C2 C3 C4 C5 h3
    obtain ⟨ru0, ru1⟩ := ru
    obtain ⟨rv0, rv1⟩ := rv
    obtain ⟨q00, q01⟩ := q0
    obtain ⟨q10, q11⟩ := q1
    obtain ⟨q20, q21⟩ := q2
    obtain ⟨ht0, ht1⟩ := ht
    obtain ⟨hh0, hh1⟩ := hh
    go_enter Try.func11, Try.ntmps11
    go_wp2_with (first | (go_at_call 58; (with_reducible refine (boolCall (sPx_calls _ _ _ _ _ HR.out HC.out) HP.out).mono ?_); rintro e w' ⟨rfl, ⟨nd, rfl⟩⟩))
    have s1 : wrap64 (wrap64 (2 ^ a0.toNat) - 1) = tp := by rw [TP.out]; rcases H8.out with rfl | rfl <;> decide +kernel
    have s2 : wrap64 (2 ^ (a0.toNat - 1)) = hf := by rw [HF.out]; rcases H8.out with rfl | rfl <;> decide +kernel
    simp only [s1, s2]
    clear s1 s2 g8 g9 g7
    go_quiet (first | (go_at_call 60; first | ((with_reducible refine (K0.out _).mono ?_); rintro e w' ⟨rfl, ⟨nd, rfl⟩⟩; first | exact ⟨rfl, _, World.drewN_drewN _ _ _⟩ | exact ⟨rfl, _, Eq.trans (World.drewN_drewN _ _ _) (congrArg (World.drewN _) (Nat.add_assoc _ _ _))⟩) | ((with_reducible refine (K1.out _).mono ?_); rintro e w' ⟨rfl, ⟨nd, rfl⟩⟩; first | exact ⟨rfl, _, World.drewN_drewN _ _ _⟩ | exact ⟨rfl, _, Eq.trans (World.drewN_drewN _ _ _) (congrArg (World.drewN _) (Nat.add_assoc _ _ _))⟩) | ((with_reducible refine (K2.out _).mono ?_); rintro e w' ⟨rfl, ⟨nd, rfl⟩⟩; first | exact ⟨rfl, _, World.drewN_drewN _ _ _⟩ | exact ⟨rfl, _, Eq.trans (World.drewN_drewN _ _ _) (congrArg (World.drewN _) (Nat.add_assoc _ _ _))⟩)) | (go_at_call 59; first | ((with_reducible refine (K3.out _).mono ?_); rintro e w' ⟨rfl, ⟨nd, rfl⟩⟩; first | exact ⟨rfl, _, World.drewN_drewN _ _ _⟩ | exact ⟨rfl, _, Eq.trans (World.drewN_drewN _ _ _) (congrArg (World.drewN _) (Nat.add_assoc _ _ _))⟩) | ((with_reducible refine (K4.out _).mono ?_); rintro e w' ⟨rfl, ⟨nd, rfl⟩⟩; first | exact ⟨rfl, _, World.drewN_drewN _ _ _⟩ | exact ⟨rfl, _, Eq.trans (World.drewN_drewN _ _ _) (congrArg (World.drewN _) (Nat.add_assoc _ _ _))⟩) | ((with_reducible refine (K5.out _).mono ?_); rintro e w' ⟨rfl, ⟨nd, rfl⟩⟩; first | exact ⟨rfl, _, World.drewN_drewN _ _ _⟩ | exact ⟨rfl, _, Eq.trans (World.drewN_drewN _ _ _) (congrArg (World.drewN _) (Nat.add_assoc _ _ _))⟩)))
    go_wp2_with (first | (go_at_call 60; first | ((with_reducible refine (K0.out _).mono ?_); rintro e w' ⟨rfl, ⟨nd, rfl⟩⟩) | ((with_reducible refine (K1.out _).mono ?_); rintro e w' ⟨rfl, ⟨nd, rfl⟩⟩) | ((with_reducible refine (K2.out _).mono ?_); rintro e w' ⟨rfl, ⟨nd, rfl⟩⟩)) | (go_at_call 59; first | ((with_reducible refine (K3.out _).mono ?_); rintro e w' ⟨rfl, ⟨nd, rfl⟩⟩) | ((with_reducible refine (K4.out _).mono ?_); rintro e w' ⟨rfl, ⟨nd, rfl⟩⟩) | ((with_reducible refine (K5.out _).mono ?_); rintro e w' ⟨rfl, ⟨nd, rfl⟩⟩)))
    go_quiet (first | (go_at_call 60; first | ((with_reducible refine (K0.out _).mono ?_); rintro e w' ⟨rfl, ⟨nd, rfl⟩⟩; first | exact ⟨rfl, _, World.drewN_drewN _ _ _⟩ | exact ⟨rfl, _, Eq.trans (World.drewN_drewN _ _ _) (congrArg (World.drewN _) (Nat.add_assoc _ _ _))⟩) | ((with_reducible refine (K1.out _).mono ?_); rintro e w' ⟨rfl, ⟨nd, rfl⟩⟩; first | exact ⟨rfl, _, World.drewN_drewN _ _ _⟩ | exact ⟨rfl, _, Eq.trans (World.drewN_drewN _ _ _) (congrArg (World.drewN _) (Nat.add_assoc _ _ _))⟩) | ((with_reducible refine (K2.out _).mono ?_); rintro e w' ⟨rfl, ⟨nd, rfl⟩⟩; first | exact ⟨rfl, _, World.drewN_drewN _ _ _⟩ | exact ⟨rfl, _, Eq.trans (World.drewN_drewN _ _ _) (congrArg (World.drewN _) (Nat.add_assoc _ _ _))⟩)) | (go_at_call 59; first | ((with_reducible refine (K3.out _).mono ?_); rintro e w' ⟨rfl, ⟨nd, rfl⟩⟩; first | exact ⟨rfl, _, World.drewN_drewN _ _ _⟩ | exact ⟨rfl, _, Eq.trans (World.drewN_drewN _ _ _) (congrArg (World.drewN _) (Nat.add_assoc _ _ _))⟩) | ((with_reducible refine (K4.out _).mono ?_); rintro e w' ⟨rfl, ⟨nd, rfl⟩⟩; first | exact ⟨rfl, _, World.drewN_drewN _ _ _⟩ | exact ⟨rfl, _, Eq.trans (World.drewN_drewN _ _ _) (congrArg (World.drewN _) (Nat.add_assoc _ _ _))⟩) | ((with_reducible refine (K5.out _).mono ?_); rintro e w' ⟨rfl, ⟨nd, rfl⟩⟩; first | exact ⟨rfl, _, World.drewN_drewN _ _ _⟩ | exact ⟨rfl, _, Eq.trans (World.drewN_drewN _ _ _) (congrArg (World.drewN _) (Nat.add_assoc _ _ _))⟩)))
    go_wp2_with (first | (go_at_call 60; first | ((with_reducible refine (K0.out _).mono ?_); rintro e w' ⟨rfl, ⟨nd, rfl⟩⟩) | ((with_reducible refine (K1.out _).mono ?_); rintro e w' ⟨rfl, ⟨nd, rfl⟩⟩) | ((with_reducible refine (K2.out _).mono ?_); rintro e w' ⟨rfl, ⟨nd, rfl⟩⟩)) | (go_at_call 59; first | ((with_reducible refine (K3.out _).mono ?_); rintro e w' ⟨rfl, ⟨nd, rfl⟩⟩) | ((with_reducible refine (K4.out _).mono ?_); rintro e w' ⟨rfl, ⟨nd, rfl⟩⟩) | ((with_reducible refine (K5.out _).mono ?_); rintro e w' ⟨rfl, ⟨nd, rfl⟩⟩)))
    go_ret
    refine ⟨_, rfl, lit_ints (W := w.drewN _) (pw_below_drewN (Below.refl _ _) _) 3 [fR, fG, fB] (by simp), ?_⟩
    repeat (first | exact Below.refl _ _ | apply below_alloc | apply pw_below_drewN | apply below_drew1)
  · have HE := Aside0.mk (show fromYccI a0 l1 = [] from by unfold fromYccI; rw [if_neg hp])
    have HP := Aside0.mk (Bool.eq_false_iff.mpr hp)
    clear hp
    rw [HE.out]
    clear HE
    go_enter Try.func11, Try.ntmps11
    go_wp2_with (first | (go_at_call 58; (with_reducible refine (boolCall (sPx_calls _ _ _ _ _ HR.out HC.out) HP.out).mono ?_); rintro e w' ⟨rfl, ⟨nd, rfl⟩⟩))
    go_ret
    refine ⟨_, rfl, lit_ints (W := w.drewN _) (pw_below_drewN (Below.refl _ _) _) 3 [] (by simp), ?_⟩
    repeat (first | exact Below.refl _ _ | apply below_alloc | apply pw_below_drewN | apply below_drew1)

end Go.Proofs.Ytimappilioaagaa.CA
