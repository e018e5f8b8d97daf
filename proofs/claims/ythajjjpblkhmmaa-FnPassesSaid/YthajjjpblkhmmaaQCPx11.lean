/- Functions that a law of this seat reaches: written by a program of this session (wip/xprint.py), and by hand. -/
import Derived.Test.YthajjjpblkhmmaaQMac
import Derived.Test.YthajjjpblkhmmaaQCPx0
import Derived.Test.YthajjjpblkhmmaaQCPx2
import Derived.Test.YthajjjpblkhmmaaQCPx3
namespace Go.Proofs.Ythajjjpblkhmmaa.CP
open Go.RowKit Go.Proofs.Ythajjjpblkhmmaa.B Go.Proofs.YthajjjpblkhmmaaW.PrintWords Go.Proofs.YthajjjpblkhmmaaW.PrintLast Go.Proofs.YthajjjpblkhmmaaW.PrintMore
attribute [local go_sem] max2_int min2_int max_two min_two max_three min_three max_four min_four   -- for this text's walks alone
set_option linter.unusedVariables false
set_option linter.unusedSimpArgs false

/-! ### impl_putRefine: function 81 -/
def impl_putRefine.l0 : Nat → List Int → List Int → List Int → Int → Int → List Int → Int → Int → Int → Int → Option (Bool × List Int)
  | 0, _, _, _, _, _, _, _, _, _, _ => none
  | k + 1, x0, x7, x21, x22, x23, x312000, x312001, x312002, x312003, x312004 => if x23 < x22 then (if 0 ≤ x23 then (if x23 < (x21.length : Int) then (if 0 ≤ (wrap64 (x312001 + x23)) then (if (wrap64 (x312001 + x23)) < (x7.length : Int) then (if 0 ≤ (rd x7 (wrap64 (x312001 + x23))) then (if (rd x7 (wrap64 (x312001 + x23))) < (x0.length : Int) then ((impl_within.f (rd x21 x23) (-1) 1).bind fun t317 => (if t317 = true then (if (rd x21 x23) < 0 then (if (rd x0 (rd x7 (wrap64 (x312001 + x23)))) = 0 then (if (rd x0 (rd x7 (wrap64 (x312001 + x23)))) < 0 then (if 0 ≤ x312004 then (impl_putRefine.l0 k (x0.set ((rd x7 (wrap64 (x312001 + x23))) : Int).toNat (wrap64 ((rd x0 (rd x7 (wrap64 (x312001 + x23)))) + (shl .i64 (wrap64 (-(rd x21 x23))) x312004)))) x7 x21 x22 (wrap64 (x23 + 1)) x312000 x312001 x312002 x312003 x312004) else (none)) else (if 0 ≤ x312004 then (impl_putRefine.l0 k (x0.set ((rd x7 (wrap64 (x312001 + x23))) : Int).toNat (wrap64 ((rd x0 (rd x7 (wrap64 (x312001 + x23)))) + (shl .i64 (rd x21 x23) x312004)))) x7 x21 x22 (wrap64 (x23 + 1)) x312000 x312001 x312002 x312003 x312004) else (none))) else (some (false, x0))) else (if (rd x0 (rd x7 (wrap64 (x312001 + x23)))) < 0 then (if 0 ≤ x312004 then (impl_putRefine.l0 k (x0.set ((rd x7 (wrap64 (x312001 + x23))) : Int).toNat (wrap64 ((rd x0 (rd x7 (wrap64 (x312001 + x23)))) + (shl .i64 (wrap64 (-(rd x21 x23))) x312004)))) x7 x21 x22 (wrap64 (x23 + 1)) x312000 x312001 x312002 x312003 x312004) else (none)) else (if 0 ≤ x312004 then (impl_putRefine.l0 k (x0.set ((rd x7 (wrap64 (x312001 + x23))) : Int).toNat (wrap64 ((rd x0 (rd x7 (wrap64 (x312001 + x23)))) + (shl .i64 (rd x21 x23) x312004)))) x7 x21 x22 (wrap64 (x23 + 1)) x312000 x312001 x312002 x312003 x312004) else (none)))) else (some (false, x0)))) else (none)) else (none)) else (none)) else (none)) else (none)) else (none)) else ((impl_isLevels.f k x0).bind fun t322 => (some (t322, x0)))
def impl_putRefine.f (k : Nat) (l0 : List Int) (l1_0 : List Int) (a1_1 : Int) (a1_2 : Int) (a1_3 : Int) (a1_4 : Int) (l2 : List Int) : Option (Bool × List Int) := (impl_zigZag.f k).bind fun t312 => (if (l2.length : Int) = (wrap64 ((wrap64 (a1_2 - a1_1)) + 1)) then (impl_putRefine.l0 k l0 t312 l2 (l2.length : Int) 0 l1_0 a1_1 a1_2 a1_3 a1_4) else (some (false, l0)))
def impl_putRefine.T12 : Bool × List (List Nat × List Nat) := (true, [([], []), ([0], [0]), ([1], [1]), ([], []), ([], []), ([4], [4]), ([3, 5], [3, 5]), ([2, 6], [2, 6]), ([0, 0, 1, 2, 3, 4, 5, 6, 7], [0]), ([8, 7, 0, 1, 2, 3, 4, 5, 6, 7], [7, 8])])
def impl_putRefine.B12 : List Nat := [0, 1, 3, 0, 0, 16, 56, 127, 255, 511]
theorem impl_putRefine.tab12 : rtab .any (opsOf Try.f81 12) = impl_putRefine.T12 := by kernel_rfl
theorem impl_putRefine.bits12 : waitsOk impl_putRefine.T12.2 impl_putRefine.B12 = true := by kernel_rfl
set_option maxHeartbeats 8000000 in
set_option maxRecDepth 100000 in
theorem impl_putRefine.calls (k : Nat) (P0_ : Nat → Prop) (u9000_ : Value) (l0 : List Int) (A1_0 : Option Addr) (c1_0 : Nat) (l1_0 : List Int) (a1_1 : Int) (a1_2 : Int) (a1_3 : Int) (a1_4 : Int) (A2 : Option Addr) (c2 : Nat) (l2 : List Int) (r1 : Bool) (r2 : List Int) (w0 w : World) (hB : Below w0.heap.size w0 w) (ho0 : Kd.R (Kd.int .i64) 3 w w0.heap.size P0_ u9000_ l0) (hr1_0 : ∀ W_, Kept w W_ (fun k_ => P0_ k_) → Kd.C (Kd.int .i64) W_ A1_0 l1_0.length l1_0) (hc1_0 : l1_0.length ≤ c1_0) (hr2 : ∀ W_, Kept w W_ (fun k_ => P0_ k_) → Kd.C (Kd.int .i64) W_ A2 l2.length l2) (hc2 : l2.length ≤ c2) (h : impl_putRefine.f k l0 l1_0 a1_1 a1_2 a1_3 a1_4 l2 = some (r1, r2)) :
  Calls Try.prog 81 #[u9000_, .agg #[.slice A1_0 l1_0.length c1_0, .int .i64 a1_1, .int .i64 a1_2, .int .i64 a1_3, .int .i64 a1_4], .slice A2 l2.length c2] w fun e w' => e = .returned (.bool r1) ∧ Kd.R (Kd.int .i64) 3 w' w0.heap.size (fun k_ => (P0_ k_ ∨ w.heap.size ≤ k_)) u9000_ r2 ∧ Below w0.heap.size w0 w' ∧ Kept w w' (fun k_ => P0_ k_) := by
 have hu28 := Try.underlying28
 have HO0 := aM (show Kd.R (Kd.int .i64) 3 w w0.heap.size (fun k_ => (P0_ k_ ∨ w.heap.size ≤ k_)) u9000_ l0 from Kd.R_mono ho0 (fun k_ hk => (.inl hk)))
 have HR1_0 := aM hr1_0
 have HC1_0 := aM hc1_0
 clear hr1_0 hc1_0
 have HR2 := aM hr2
 have HC2 := aM hc2
 clear hr2 hc2
 have HK := aM (Kept.refl w (fun k_ => P0_ k_))
 have HW0 := aM hB.size
 have HB := aM hB
 clear hB
 have H : ((impl_zigZag.f k).bind fun t312 => (if (l2.length : Int) = (wrap64 ((wrap64 (a1_2 - a1_1)) + 1)) then (impl_putRefine.l0 k l0 t312 l2 (l2.length : Int) 0 l1_0 a1_1 a1_2 a1_3 a1_4) else (some (false, l0)))) = some (r1, r2) := h
 clear h
 obtain ⟨t312, A4, H⟩ := oH H
 by_cases c5 : (l2.length : Int) = (wrap64 ((wrap64 (a1_2 - a1_1)) + 1))
 ·rw [if_pos c5] at H
  have c5b0 : ((l2.length : Int) == (wrap64 ((wrap64 (a1_2 - a1_1)) + 1))) = true := beq_iff_eq.mpr c5
  have c5b1 : ((l2.length : Int) != (wrap64 ((wrap64 (a1_2 - a1_1)) + 1))) = false := bne_eq_false_iff_eq.mpr c5
  clear c5
  have H' := aM H
  clear H
  go_enter Try.func81, Try.ntmps81
  go_wp2_with (first | ((with_reducible refine gate_dst (N := 4) rfl ?_); refine box_event ?hg (N := 4) ?hd (cs := #[.slice A1_0 l1_0.length c1_0, .int .i64 a1_1, .int .i64 a1_2, .int .i64 a1_3, .int .i64 a1_4]) (t := 28) ?hr ?_; (case hd => rfl); (case hg => rfl); (case hr => first | (go_simp; done) | (go_simp; rfl)); intro gb311 hg w6 hbox hb; replace HO0 := aM (Kd.R_below (by (with_reducible repeat (first | apply Kd.R_alloc | apply Kd.R_drewN | apply Kd.R_drew)); exact HO0.out) hb); have BK311 := aM hbox; have GW311 := aM ((by rw [hg]; exact (by first | exact HK.out.1 | exact (show Kept w _ (fun k_ => P0_ k_) from by repeat (first | (with_reducible first | exact HK.out | apply Kept.alloc | apply Kept.drewN | apply Kept.drew) | exact HK.out)).1) : w.heap.size ≤ gb311)); replace HK := aM (Kept.below (S := (fun k_ => P0_ k_)) (by repeat (first | (with_reducible first | exact HK.out | apply Kept.alloc | apply Kept.drewN | apply Kept.drew) | exact HK.out)) hb); have GE311 := aM (zG hg : w0.heap.size ≤ gb311); replace HB := cH HB hb; clear hb hbox hg) | (go_at_call 118; (with_reducible refine (impl_zigZag.calls k  t312 _ A4.out).mono ?_); rintro e w7 ⟨v313, rfl, ho0, hb⟩; have HO314 := aM (Kd.R_lower (Kd.R_new' (Kd.R_newM (M := fun k_ => (P0_ k_ ∨ w.heap.size ≤ k_)) ho0 (by first | exact HK.out.1 | exact (show Kept w _ (fun k_ => P0_ k_) from by repeat (first | (with_reducible first | exact HK.out | apply Kept.alloc | apply Kept.drewN | apply Kept.drew | refine Kept.setCell ?_ (.inr GW311.out) _) | exact HK.out)).1) (fun k_ h_ => .inr h_)) (Kd.R_lt (by (with_reducible repeat (first | apply Kd.R_alloc | apply Kd.R_drewN | apply Kd.R_drew)); exact HO0.out))) (below_size zH)); replace HO0 := aM (Kd.R_elder' (by (with_reducible repeat (first | apply Kd.R_alloc | apply Kd.R_drewN | apply Kd.R_drew)); exact HO0.out) (Kd.R_base ho0) hb); replace BK311 := cB BK311 hb; replace HK := aM (Kept.below (S := (fun k_ => P0_ k_)) (by repeat (first | (with_reducible first | exact HK.out | apply Kept.alloc | apply Kept.drewN | apply Kept.drew | refine Kept.setCell ?_ (.inr GW311.out) _) | exact HK.out)) hb); replace HB := cH HB hb; (try clear hb); (try clear ho0); obtain ⟨hcz8_0, hcz8_1, hcz8_2, hcz8_3, hcz8_4⟩ := kk5 BK311; obtain ⟨hfz8_0, hfz8_1, hfz8_2, hfz8_3, hfz8_4⟩ := kg5 BK311))
  go_loopg [23] k (fun kq v23 w' => ∃ (x0_1 : List Int) (x23_1 : Int), v23 = .int .i64 x23_1 ∧ Aside0 (impl_putRefine.l0 kq x0_1 t312 l2 (l2.length : Int) x23_1 l1_0 a1_1 a1_2 a1_3 a1_4 = some (r1, r2)) ∧ Aside0 (kq ≤ k) ∧ Aside0 (Kd.R (Kd.int .i64) 3 w' w0.heap.size (fun k_ => (P0_ k_ ∨ w.heap.size ≤ k_) ∧ some k_ ≠ (v313 : Value).ownBlock) u9000_ x0_1) ∧ Aside0 (Kd.R (Kd.int .i64) 3 w' w0.heap.size (fun k_ => (P0_ k_ ∨ w.heap.size ≤ k_) ∧ some k_ ≠ (u9000_ : Value).ownBlock) v313 t312) ∧ Aside0 (w'.heap[gb311]? = some (.cells #[(.slice A1_0 l1_0.length c1_0), .int .i64 a1_1, .int .i64 a1_2, .int .i64 a1_3, .int .i64 a1_4] 28 (0, 0))) ∧ Aside0 (Kept w w' (fun k_ => P0_ k_)) ∧ Aside0 (Below w0.heap.size w0 w'))
  case atStart => exact ⟨(l0), (0), zS, H', ⟨Nat.le_refl _⟩, ⟨by (with_reducible repeat (first | apply Kd.R_alloc | apply Kd.R_drewN | apply Kd.R_drew)); exact HO0.out⟩, ⟨by (with_reducible repeat (first | apply Kd.R_alloc | apply Kd.R_drewN | apply Kd.R_drew)); exact Kd.R_mono HO314.out (fun _ hk => ⟨hk.1.1, hk.2⟩)⟩, ⟨zK BK311⟩, ⟨by repeat (first | (with_reducible first | exact HK.out | apply Kept.alloc | apply Kept.drewN | apply Kept.drew | refine Kept.setCell ?_ (.inr GW311.out) _) | exact HK.out)⟩, ⟨zH⟩⟩
  case round =>
   clear H'
   (try clear c2); (try clear c5b0); (try clear c5b1); (try clear hcz8_0); (try clear hcz8_1); (try clear hcz8_2); (try clear hcz8_3); (try clear hcz8_4); (try clear hfz8_0); (try clear hfz8_1); (try clear hfz8_2); (try clear hfz8_3); (try clear hfz8_4)
   obtain ⟨x0_1, x23_1, rfl, HA, HK1, HO_0, HO_7, BK311, HK, HB⟩ := hrel
   cases gk with
   | zero => exact absurd HA.out (by simp [impl_putRefine.l0])
   | succ k1 =>
    have H := HA.out
    clear HA
    simp only [impl_putRefine.l0] at H
    by_cases c9 : x23_1 < (l2.length : Int)
    ·rw [if_pos c9] at H
     have c9b0 : decide (x23_1 < (l2.length : Int)) = true := decide_eq_true c9
     clear c9
     by_cases c10 : 0 ≤ x23_1
     ·rw [if_pos c10] at H
      have c10b0 : decide (0 ≤ x23_1) = true := decide_eq_true c10
      clear c10
      by_cases c11 : x23_1 < (l2.length : Int)
      ·rw [if_pos c11] at H
       have c11b0 : decide (x23_1 < (l2.length : Int)) = true := decide_eq_true c11
       clear c11
       obtain ⟨ji12, hji12⟩ : ∃ j_ : Int, (wrap64 (a1_1 + x23_1)) = j_ := ⟨_, rfl⟩
       replace H : (if 0 ≤ (ji12) then (if (ji12) < (t312.length : Int) then (if 0 ≤ (rd t312 (ji12)) then (if (rd t312 (ji12)) < (x0_1.length : Int) then ((impl_within.f (rd l2 x23_1) (-1) 1).bind fun t317 => (if t317 = true then (if (rd l2 x23_1) < 0 then (if (rd x0_1 (rd t312 (ji12))) = 0 then (if (rd x0_1 (rd t312 (ji12))) < 0 then (if 0 ≤ a1_4 then (impl_putRefine.l0 k1 (x0_1.set ((rd t312 (ji12)) : Int).toNat (wrap64 ((rd x0_1 (rd t312 (ji12))) + (shl .i64 (wrap64 (-(rd l2 x23_1))) a1_4)))) t312 l2 (l2.length : Int) (wrap64 (x23_1 + 1)) l1_0 a1_1 a1_2 a1_3 a1_4) else (none)) else (if 0 ≤ a1_4 then (impl_putRefine.l0 k1 (x0_1.set ((rd t312 (ji12)) : Int).toNat (wrap64 ((rd x0_1 (rd t312 (ji12))) + (shl .i64 (rd l2 x23_1) a1_4)))) t312 l2 (l2.length : Int) (wrap64 (x23_1 + 1)) l1_0 a1_1 a1_2 a1_3 a1_4) else (none))) else (some (false, x0_1))) else (if (rd x0_1 (rd t312 (ji12))) < 0 then (if 0 ≤ a1_4 then (impl_putRefine.l0 k1 (x0_1.set ((rd t312 (ji12)) : Int).toNat (wrap64 ((rd x0_1 (rd t312 (ji12))) + (shl .i64 (wrap64 (-(rd l2 x23_1))) a1_4)))) t312 l2 (l2.length : Int) (wrap64 (x23_1 + 1)) l1_0 a1_1 a1_2 a1_3 a1_4) else (none)) else (if 0 ≤ a1_4 then (impl_putRefine.l0 k1 (x0_1.set ((rd t312 (ji12)) : Int).toNat (wrap64 ((rd x0_1 (rd t312 (ji12))) + (shl .i64 (rd l2 x23_1) a1_4)))) t312 l2 (l2.length : Int) (wrap64 (x23_1 + 1)) l1_0 a1_1 a1_2 a1_3 a1_4) else (none)))) else (some (false, x0_1)))) else (none)) else (none)) else (none)) else (none)) = some (r1, r2) := by first | (rw [hji12] at H; exact H) | (simp only [hji12] at H ⊢; exact H)
       have hji12w : (IntKind.i64.wrap (a1_1 + x23_1)) = ji12 := (i64_w _).trans hji12
       by_cases c13 : 0 ≤ (ji12)
       ·rw [if_pos c13] at H
        have c13b0 : decide (0 ≤ (ji12)) = true := decide_eq_true c13
        clear c13
        by_cases c14 : (ji12) < (t312.length : Int)
        ·rw [if_pos c14] at H
         have c14b0 : decide ((ji12) < (t312.length : Int)) = true := decide_eq_true c14
         clear c14
         by_cases c15 : 0 ≤ (rd t312 (ji12))
         ·rw [if_pos c15] at H
          have c15b0 : decide (0 ≤ (rd t312 (ji12))) = true := decide_eq_true c15
          clear c15
          by_cases c16 : (rd t312 (ji12)) < (x0_1.length : Int)
          ·rw [if_pos c16] at H
           have c16b0 : decide ((rd t312 (ji12)) < (x0_1.length : Int)) = true := decide_eq_true c16
           clear c16
           obtain ⟨t317, A18, H⟩ := oH H
           by_cases c19 : t317 = true
           ·subst c19
            replace H := iT H
            by_cases c20 : (rd l2 x23_1) < 0
            ·rw [if_pos c20] at H
             have c20b0 : decide ((rd l2 x23_1) < 0) = true := decide_eq_true c20
             clear c20
             by_cases c21 : (rd x0_1 (rd t312 (ji12))) = 0
             ·rw [if_pos c21] at H
              have c21b0 : ((rd x0_1 (rd t312 (ji12))) == 0) = true := beq_iff_eq.mpr c21
              have c21b1 : ((rd x0_1 (rd t312 (ji12))) != 0) = false := bne_eq_false_iff_eq.mpr c21
              clear c21
              by_cases c22 : (rd x0_1 (rd t312 (ji12))) < 0
              ·rw [if_pos c22] at H
               have c22b0 : decide ((rd x0_1 (rd t312 (ji12))) < 0) = true := decide_eq_true c22
               clear c22
               by_cases c23 : 0 ≤ a1_4
               ·rw [if_pos c23] at H
                have c23b0 := eq_true c23
                have c23b1 : decide (0 ≤ a1_4) = true := decide_eq_true c23
                clear c23
                obtain ⟨ji24, hji24⟩ : ∃ j_ : Int, (shl .i64 (wrap64 (-(rd l2 x23_1))) a1_4) = j_ := ⟨_, rfl⟩
                replace H : (impl_putRefine.l0 k1 (x0_1.set ((rd t312 (ji12)) : Int).toNat (wrap64 ((rd x0_1 (rd t312 (ji12))) + (ji24)))) t312 l2 (l2.length : Int) (wrap64 (x23_1 + 1)) l1_0 a1_1 a1_2 a1_3 a1_4) = some (r1, r2) := by first | (rw [hji24] at H; exact H) | (simp only [hji24] at H ⊢; exact H)
                (try rw [hji24] at A18)
                have hji24_ : (IntKind.i64.wrap ((wrap64 (-(rd l2 x23_1))) * 2 ^ min a1_4.toNat 64)) = ji24 := hji24
                have hji24z : a1_4 ≤ 64 → (IntKind.i64.wrap ((wrap64 (-(rd l2 x23_1))) * 2 ^ a1_4.toNat)) = ji24 := shl_small hji24
                have hji24y : (wrap64 ((wrap64 (-(rd l2 x23_1))) * 2 ^ min a1_4.toNat 64)) = ji24 := (i64_w _).symm.trans hji24_
                have hji24x : a1_4 ≤ 64 → (wrap64 ((wrap64 (-(rd l2 x23_1))) * 2 ^ a1_4.toNat)) = ji24 := fun h_ => (i64_w _).symm.trans (hji24z h_)
                obtain ⟨y318, hy318⟩ : ∃ y_ : List Int, y_ = (x0_1.set ((rd t312 (ji12)) : Int).toNat (wrap64 ((rd x0_1 (rd t312 (ji12))) + (ji24)))) := ⟨_, rfl⟩
                replace H : (impl_putRefine.l0 k1 y318 t312 l2 (l2.length : Int) (wrap64 (x23_1 + 1)) l1_0 a1_1 a1_2 a1_3 a1_4) = some (r1, r2) := by first | (rw [hy318]; with_reducible exact H) | (have H2_ := (Option.bind_some _ _).symm.trans H; rw [hy318]; with_reducible exact H2_) | (have H2_ := (Option.bind_some _ _).symm.trans H; with_reducible exact H2_) | with_reducible exact H | (rw [hy318]; exact H) | exact H
                have Ny318 := aM hy318
                clear hy318
                have H' := aM H
                clear H
                have p315 : 0 ≤ (x23_1 : Int) := zA
                have q315 : x23_1 < (l2.length : Int) := zA
                obtain ⟨ad315, e315, hx315_0⟩ := Kd.at_int (Kd.C_kept_now HR2.out HK.out) x23_1 p315 q315
                cases e315
                replace p315 := eq_true p315
                replace q315 := eq_true q315
                obtain ⟨hcz25_0, hcz25_1, hcz25_2, hcz25_3, hcz25_4⟩ := kk5 BK311
                obtain ⟨hfz25_0, hfz25_1, hfz25_2, hfz25_3, hfz25_4⟩ := kg5 BK311
                obtain ⟨Ao26, co26, eo26⟩ := Kd.R_slice HO_7.out
                subst eo26
                have p316 : 0 ≤ ((ji12) : Int) := zA
                have q316 : (ji12) < (t312.length : Int) := zA
                obtain ⟨ad316, e316, hx316_0⟩ := Kd.at_int (Kd.R_reads' HO_7.out).2.2 (ji12) p316 q316
                cases e316
                replace p316 := eq_true p316
                replace q316 := eq_true q316
                have p17 : 0 ≤ ((rd t312 (ji12)) : Int) := zA
                have q17 : ((rd t312 (ji12)) : Int) < ((x0_1.length : Int) : Int) := zA
                obtain ⟨go17, co17, eo17, gb17, gl17, cl17, HG17⟩ := Kd.R_form HO_0.out (by omega)
                (first | cases eo17 | (injection eo17 with ea_ en_ ec_; (first | subst ea_ | (injection ea_ with ea_; subst ea_)); subst ec_; clear en_))
                have GB17 := aM gb17
                have GG17 := aM HG17
                clear gb17 gl17 HG17
                have HMgo17 := aM (show (P0_ go17 ∨ w.heap.size ≤ go17) from (HO_0.out.1 _ rfl).1)
                obtain ⟨hx17_0, hf17_0⟩ := Kd.R_celln 0 HO_0.out ((rd t312 (ji12)) : Int) p17 q17
                replace hx17_0 : World.cell? _ _ = some (Value.int .i64 (rd x0_1 (rd t312 (ji12)))) := hx17_0
                replace p17 := eq_true p17
                replace q17 := eq_true q17
                try go_wp2_with (first | (go_at_call 101; (with_reducible refine (impl_within.calls (rd l2 x23_1) (-1) 1 true _ A18.out).mono ?_); rintro e w' ⟨rfl, ⟨nd, rfl⟩⟩; (try (rw [drewN_self wr]; generalize hq_ : World.drewN wr _ = wr; have n0_ : Aside0 (Kd.R (Kd.int .i64) 3 wr w0.heap.size (fun k_ => (P0_ k_ ∨ w.heap.size ≤ k_) ∧ some k_ ≠ (.slice (some ad316) t312.length co26 : Value).ownBlock) (.slice (some ⟨go17, 0, none⟩) x0_1.length co17) x0_1) := ⟨by rw [← hq_]; exact (by (with_reducible repeat (first | apply Kd.R_alloc | apply Kd.R_drewN | apply Kd.R_drew)); exact HO_0.out)⟩; have n1_ : Aside0 (Kd.R (Kd.int .i64) 3 wr w0.heap.size (fun k_ => (P0_ k_ ∨ w.heap.size ≤ k_) ∧ some k_ ≠ (.slice (some ⟨go17, 0, none⟩) x0_1.length co17 : Value).ownBlock) (.slice (some ad316) t312.length co26) t312) := ⟨by rw [← hq_]; exact (by (with_reducible repeat (first | apply Kd.R_alloc | apply Kd.R_drewN | apply Kd.R_drew)); exact HO_7.out)⟩; have n2_ : Aside0 (wr.heap[gb311]? = some (.cells #[.slice A1_0 l1_0.length c1_0, .int .i64 a1_1, .int .i64 a1_2, .int .i64 a1_3, .int .i64 a1_4] 28 (0, 0))) := ⟨by rw [← hq_]; exact (zK BK311)⟩; have n3_ : Aside0 (Kept w wr (fun k_ => P0_ k_)) := ⟨by rw [← hq_]; exact (by repeat (first | (with_reducible first | exact HK.out | apply Kept.alloc | apply Kept.drewN | apply Kept.drew | refine Kept.setCell ?_ (.inr GW311.out) _) | exact HK.out))⟩; have n4_ : Aside0 (Below w0.heap.size w0 wr) := ⟨by rw [← hq_]; exact zH⟩; (try have hs_ : World.cell? wr ⟨go17, ((rd t312 (ji12)) : Int).toNat, none⟩ = some (Value.int .i64 (rd x0_1 (rd t312 (ji12)))) := (by rw [← hq_]; exact hx17_0)); clear HO_0 HO_7 BK311 HK HB hq_; (try have hx17_0 := hs_); have HO_0 := n0_; have HO_7 := n1_; have BK311 := n2_; have HK := n3_; have HB := n4_; clear n0_ n1_ n2_ n3_ n4_))))
                have n0_ := aM (Kd.R_drew HO_0.out)
                have n1_ := aM (Kd.R_drew HO_7.out)
                have n2_ := aM (kD BK311.out)
                have n3_ := aM (Kept.drew HK.out)
                have n4_ := aM (b1 HB.out)
                clear HO_0
                clear HO_7
                clear BK311
                clear HK
                clear HB
                have HO_0 := n0_
                have HO_7 := n1_
                have BK311 := n2_
                have HK := n3_
                have HB := n4_
                clear n0_ n1_ n2_ n3_ n4_
                have HP28 := Kd.R_putn HO_0.out ((rd t312 (ji12)) : Int) (wrap64 ((rd x0_1 (rd t312 (ji12))) + (ji24)))
                rw [← Ny318.out] at HP28
                have HQ28 := aM HP28
                clear HP28
                refine start_ (n := 10) (S := fun w' => w'.cell? ⟨gb311, 0, none⟩ = some (.slice A1_0 l1_0.length c1_0) ∧ w'.cell? ⟨gb311, 1, none⟩ = some (.int .i64 a1_1) ∧ w'.cell? ⟨gb311, 2, none⟩ = some (.int .i64 a1_2) ∧ w'.cell? ⟨gb311, 3, none⟩ = some (.int .i64 a1_3) ∧ w'.cell? ⟨gb311, 4, none⟩ = some (.int .i64 a1_4) ∧ w'.cell? ⟨go17, ((rd t312 (ji12)) : Int).toNat, none⟩ = some (.int .i64 (rd x0_1 (rd t312 (ji12))))) (ds := [9]) #[false, false, false, false, false, false, false, false, false, false] (by kernel_rfl) rfl rfl ⟨(kC BK311.out 0).trans rfl, (kC BK311.out 1).trans rfl, (kC BK311.out 2).trans rfl, (kC BK311.out 3).trans rfl, (kC BK311.out 4).trans rfl, (by exact hx17_0)⟩ (fun hHeld => ?_); refine with_tabW impl_putRefine.tab12 impl_putRefine.bits12 (fun HT_ HW_ => ?_)
                generalize wr.drew = w27 at HO_0 HO_7 BK311 HK HB HQ28 hHeld ⊢
                obtain ⟨_, hf17_0⟩ := Kd.R_celln 0 HO_0.out ((rd t312 (ji12)) : Int) (of_eq_true p17) (of_eq_true q17)
                refine zP 0 (some 56) HT_ ?_
                refine zP 1 (some 57) HT_ ?_
                refine zP 3 (some 59) HT_ ?_
                refine zP 4 (some 60) HT_ ?_
                refine zT 2 (some 58) HT_ HW_ hHeld (hy := Or.inl ⟨by rfl, by rintro w' ⟨s0, s1, s2, s3, s4, s5⟩; go_simp; with_reducible rfl⟩) (h := ?_)
                refine zT 5 (some 61) HT_ HW_ hHeld (hy := Or.inl ⟨by rfl, by rintro w' ⟨s0, s1, s2, s3, s4, s5⟩; go_simp; with_reducible rfl⟩) (h := ?_)
                refine zP 6 (some 62) HT_ ?_
                refine zP 7 (some 63) HT_ ?_
                refine zP 8 (some 64) HT_ ?_
                refine last_ (i := 9) (N := none) #[true, true, true, true, true, true, true, true, true, true] rfl rfl (one_of HT_.out (by kernel_rfl)) (by decide) (fun K hK => ?_)
                refine skip_ (w1 := ?_) (by rfl) rfl ?_ ?_
                rotate_left
                ·go_simp
                 rfl
                refine hK.out _ _ ?_
                clear hK K
                refine done_ (done_of HT_.out (by kernel_rfl)) ?_
                try go_wp2
                go_roundg k1
                case measure => have := HK1.out; omega
                case rel => exact ⟨(y318), (wrap64 (x23_1 + 1)), zS, H', ⟨by have := HK1.out; omega⟩, ⟨by (with_reducible repeat (first | apply Kd.R_alloc | apply Kd.R_drewN | apply Kd.R_drew)); exact HQ28.out⟩, ⟨by (with_reducible repeat (first | apply Kd.R_alloc | apply Kd.R_drewN | apply Kd.R_drew)); exact Kd.R_mono (Kd.R_far (p := ⟨go17, ((rd t312 (ji12)) : Int).toNat, none⟩) (Kd.R_mono HO_7.out (fun k_ hk => (⟨hk, fun e_ => hk.2 (by rw [e_]; rfl)⟩ : _ ∧ k_ ≠ go17))) (fun _ hk => hk.2) (.int .i64 (wrap64 ((rd x0_1 (rd t312 (ji12))) + (ji24))))) (fun _ hk => ⟨hk.1.1, hk.1.2⟩)⟩, ⟨by (with_reducible repeat (first | apply kN | apply kD | apply kA)); refine blk_far ?_ (by have h_ := Kd.R_ne HO_0.out BK311.out (by decide); intro e_; exact h_ (by rw [e_]; rfl)) _; (with_reducible repeat (first | apply kN | apply kD | apply kA)); exact BK311.out⟩, ⟨by repeat (first | (with_reducible first | exact HK.out | apply Kept.alloc | apply Kept.drewN | apply Kept.drew | refine Kept.setCell ?_ HMgo17.out _ | refine Kept.setCell ?_ (.inr GW311.out) _) | exact HK.out)⟩, ⟨by repeat (first | (with_reducible first | exact HB.out | apply bA | apply bN | apply b1 | refine bS ?_ GB17.out | refine bS ?_ GE311.out) | exact HB.out)⟩⟩
               ·rw [if_neg c23] at H
                exact absurd H (by simp)
              ·rw [if_neg c22] at H
               have c22b0 : decide ((rd x0_1 (rd t312 (ji12))) < 0) = false := decide_eq_false c22
               clear c22
               by_cases c29 : 0 ≤ a1_4
               ·rw [if_pos c29] at H
                have c29b0 := eq_true c29
                have c29b1 : decide (0 ≤ a1_4) = true := decide_eq_true c29
                clear c29
                obtain ⟨ji30, hji30⟩ : ∃ j_ : Int, (shl .i64 (rd l2 x23_1) a1_4) = j_ := ⟨_, rfl⟩
                replace H : (impl_putRefine.l0 k1 (x0_1.set ((rd t312 (ji12)) : Int).toNat (wrap64 ((rd x0_1 (rd t312 (ji12))) + (ji30)))) t312 l2 (l2.length : Int) (wrap64 (x23_1 + 1)) l1_0 a1_1 a1_2 a1_3 a1_4) = some (r1, r2) := by first | (rw [hji30] at H; exact H) | (simp only [hji30] at H ⊢; exact H)
                (try rw [hji30] at A18)
                have hji30_ : (IntKind.i64.wrap ((rd l2 x23_1) * 2 ^ min a1_4.toNat 64)) = ji30 := hji30
                have hji30z : a1_4 ≤ 64 → (IntKind.i64.wrap ((rd l2 x23_1) * 2 ^ a1_4.toNat)) = ji30 := shl_small hji30
                have hji30y : (wrap64 ((rd l2 x23_1) * 2 ^ min a1_4.toNat 64)) = ji30 := (i64_w _).symm.trans hji30_
                have hji30x : a1_4 ≤ 64 → (wrap64 ((rd l2 x23_1) * 2 ^ a1_4.toNat)) = ji30 := fun h_ => (i64_w _).symm.trans (hji30z h_)
                obtain ⟨y319, hy319⟩ : ∃ y_ : List Int, y_ = (x0_1.set ((rd t312 (ji12)) : Int).toNat (wrap64 ((rd x0_1 (rd t312 (ji12))) + (ji30)))) := ⟨_, rfl⟩
                replace H : (impl_putRefine.l0 k1 y319 t312 l2 (l2.length : Int) (wrap64 (x23_1 + 1)) l1_0 a1_1 a1_2 a1_3 a1_4) = some (r1, r2) := by first | (rw [hy319]; with_reducible exact H) | (have H2_ := (Option.bind_some _ _).symm.trans H; rw [hy319]; with_reducible exact H2_) | (have H2_ := (Option.bind_some _ _).symm.trans H; with_reducible exact H2_) | with_reducible exact H | (rw [hy319]; exact H) | exact H
                have Ny319 := aM hy319
                clear hy319
                have H' := aM H
                clear H
                have p315 : 0 ≤ (x23_1 : Int) := zA
                have q315 : x23_1 < (l2.length : Int) := zA
                obtain ⟨ad315, e315, hx315_0⟩ := Kd.at_int (Kd.C_kept_now HR2.out HK.out) x23_1 p315 q315
                cases e315
                replace p315 := eq_true p315
                replace q315 := eq_true q315
                obtain ⟨hcz31_0, hcz31_1, hcz31_2, hcz31_3, hcz31_4⟩ := kk5 BK311
                obtain ⟨hfz31_0, hfz31_1, hfz31_2, hfz31_3, hfz31_4⟩ := kg5 BK311
                obtain ⟨Ao32, co32, eo32⟩ := Kd.R_slice HO_7.out
                subst eo32
                have p316 : 0 ≤ ((ji12) : Int) := zA
                have q316 : (ji12) < (t312.length : Int) := zA
                obtain ⟨ad316, e316, hx316_0⟩ := Kd.at_int (Kd.R_reads' HO_7.out).2.2 (ji12) p316 q316
                cases e316
                replace p316 := eq_true p316
                replace q316 := eq_true q316
                have p17 : 0 ≤ ((rd t312 (ji12)) : Int) := zA
                have q17 : ((rd t312 (ji12)) : Int) < ((x0_1.length : Int) : Int) := zA
                obtain ⟨go17, co17, eo17, gb17, gl17, cl17, HG17⟩ := Kd.R_form HO_0.out (by omega)
                (first | cases eo17 | (injection eo17 with ea_ en_ ec_; (first | subst ea_ | (injection ea_ with ea_; subst ea_)); subst ec_; clear en_))
                have GB17 := aM gb17
                have GG17 := aM HG17
                clear gb17 gl17 HG17
                have HMgo17 := aM (show (P0_ go17 ∨ w.heap.size ≤ go17) from (HO_0.out.1 _ rfl).1)
                obtain ⟨hx17_0, hf17_0⟩ := Kd.R_celln 0 HO_0.out ((rd t312 (ji12)) : Int) p17 q17
                replace hx17_0 : World.cell? _ _ = some (Value.int .i64 (rd x0_1 (rd t312 (ji12)))) := hx17_0
                replace p17 := eq_true p17
                replace q17 := eq_true q17
                try go_wp2_with (first | (go_at_call 101; (with_reducible refine (impl_within.calls (rd l2 x23_1) (-1) 1 true _ A18.out).mono ?_); rintro e w' ⟨rfl, ⟨nd, rfl⟩⟩; (try (rw [drewN_self wr]; generalize hq_ : World.drewN wr _ = wr; have n0_ : Aside0 (Kd.R (Kd.int .i64) 3 wr w0.heap.size (fun k_ => (P0_ k_ ∨ w.heap.size ≤ k_) ∧ some k_ ≠ (.slice (some ad316) t312.length co32 : Value).ownBlock) (.slice (some ⟨go17, 0, none⟩) x0_1.length co17) x0_1) := ⟨by rw [← hq_]; exact (by (with_reducible repeat (first | apply Kd.R_alloc | apply Kd.R_drewN | apply Kd.R_drew)); exact HO_0.out)⟩; have n1_ : Aside0 (Kd.R (Kd.int .i64) 3 wr w0.heap.size (fun k_ => (P0_ k_ ∨ w.heap.size ≤ k_) ∧ some k_ ≠ (.slice (some ⟨go17, 0, none⟩) x0_1.length co17 : Value).ownBlock) (.slice (some ad316) t312.length co32) t312) := ⟨by rw [← hq_]; exact (by (with_reducible repeat (first | apply Kd.R_alloc | apply Kd.R_drewN | apply Kd.R_drew)); exact HO_7.out)⟩; have n2_ : Aside0 (wr.heap[gb311]? = some (.cells #[.slice A1_0 l1_0.length c1_0, .int .i64 a1_1, .int .i64 a1_2, .int .i64 a1_3, .int .i64 a1_4] 28 (0, 0))) := ⟨by rw [← hq_]; exact (zK BK311)⟩; have n3_ : Aside0 (Kept w wr (fun k_ => P0_ k_)) := ⟨by rw [← hq_]; exact (by repeat (first | (with_reducible first | exact HK.out | apply Kept.alloc | apply Kept.drewN | apply Kept.drew | refine Kept.setCell ?_ (.inr GW311.out) _) | exact HK.out))⟩; have n4_ : Aside0 (Below w0.heap.size w0 wr) := ⟨by rw [← hq_]; exact zH⟩; (try have hs_ : World.cell? wr ⟨go17, ((rd t312 (ji12)) : Int).toNat, none⟩ = some (Value.int .i64 (rd x0_1 (rd t312 (ji12)))) := (by rw [← hq_]; exact hx17_0)); clear HO_0 HO_7 BK311 HK HB hq_; (try have hx17_0 := hs_); have HO_0 := n0_; have HO_7 := n1_; have BK311 := n2_; have HK := n3_; have HB := n4_; clear n0_ n1_ n2_ n3_ n4_))))
                have n0_ := aM (Kd.R_drew HO_0.out)
                have n1_ := aM (Kd.R_drew HO_7.out)
                have n2_ := aM (kD BK311.out)
                have n3_ := aM (Kept.drew HK.out)
                have n4_ := aM (b1 HB.out)
                clear HO_0
                clear HO_7
                clear BK311
                clear HK
                clear HB
                have HO_0 := n0_
                have HO_7 := n1_
                have BK311 := n2_
                have HK := n3_
                have HB := n4_
                clear n0_ n1_ n2_ n3_ n4_
                have HP34 := Kd.R_putn HO_0.out ((rd t312 (ji12)) : Int) (wrap64 ((rd x0_1 (rd t312 (ji12))) + (ji30)))
                rw [← Ny319.out] at HP34
                have HQ34 := aM HP34
                clear HP34
                refine start_ (n := 10) (S := fun w' => w'.cell? ⟨gb311, 0, none⟩ = some (.slice A1_0 l1_0.length c1_0) ∧ w'.cell? ⟨gb311, 1, none⟩ = some (.int .i64 a1_1) ∧ w'.cell? ⟨gb311, 2, none⟩ = some (.int .i64 a1_2) ∧ w'.cell? ⟨gb311, 3, none⟩ = some (.int .i64 a1_3) ∧ w'.cell? ⟨gb311, 4, none⟩ = some (.int .i64 a1_4) ∧ w'.cell? ⟨go17, ((rd t312 (ji12)) : Int).toNat, none⟩ = some (.int .i64 (rd x0_1 (rd t312 (ji12))))) (ds := [9]) #[false, false, false, false, false, false, false, false, false, false] (by kernel_rfl) rfl rfl ⟨(kC BK311.out 0).trans rfl, (kC BK311.out 1).trans rfl, (kC BK311.out 2).trans rfl, (kC BK311.out 3).trans rfl, (kC BK311.out 4).trans rfl, (by exact hx17_0)⟩ (fun hHeld => ?_); refine with_tabW impl_putRefine.tab12 impl_putRefine.bits12 (fun HT_ HW_ => ?_)
                generalize wr.drew = w33 at HO_0 HO_7 BK311 HK HB HQ34 hHeld ⊢
                obtain ⟨_, hf17_0⟩ := Kd.R_celln 0 HO_0.out ((rd t312 (ji12)) : Int) (of_eq_true p17) (of_eq_true q17)
                refine zP 0 (some 56) HT_ ?_
                refine zP 1 (some 57) HT_ ?_
                refine zP 3 (some 59) HT_ ?_
                refine zP 4 (some 60) HT_ ?_
                refine zT 2 (some 58) HT_ HW_ hHeld (hy := Or.inl ⟨by rfl, by rintro w' ⟨s0, s1, s2, s3, s4, s5⟩; go_simp; with_reducible rfl⟩) (h := ?_)
                refine zT 5 (some 61) HT_ HW_ hHeld (hy := Or.inl ⟨by rfl, by rintro w' ⟨s0, s1, s2, s3, s4, s5⟩; go_simp; with_reducible rfl⟩) (h := ?_)
                refine zP 6 (some 62) HT_ ?_
                refine zP 7 (some 63) HT_ ?_
                refine zP 8 (some 64) HT_ ?_
                refine last_ (i := 9) (N := none) #[true, true, true, true, true, true, true, true, true, true] rfl rfl (one_of HT_.out (by kernel_rfl)) (by decide) (fun K hK => ?_)
                refine skip_ (w1 := ?_) (by rfl) rfl ?_ ?_
                rotate_left
                ·go_simp
                 rfl
                refine hK.out _ _ ?_
                clear hK K
                refine done_ (done_of HT_.out (by kernel_rfl)) ?_
                try go_wp2
                go_roundg k1
                case measure => have := HK1.out; omega
                case rel => exact ⟨(y319), (wrap64 (x23_1 + 1)), zS, H', ⟨by have := HK1.out; omega⟩, ⟨by (with_reducible repeat (first | apply Kd.R_alloc | apply Kd.R_drewN | apply Kd.R_drew)); exact HQ34.out⟩, ⟨by (with_reducible repeat (first | apply Kd.R_alloc | apply Kd.R_drewN | apply Kd.R_drew)); exact Kd.R_mono (Kd.R_far (p := ⟨go17, ((rd t312 (ji12)) : Int).toNat, none⟩) (Kd.R_mono HO_7.out (fun k_ hk => (⟨hk, fun e_ => hk.2 (by rw [e_]; rfl)⟩ : _ ∧ k_ ≠ go17))) (fun _ hk => hk.2) (.int .i64 (wrap64 ((rd x0_1 (rd t312 (ji12))) + (ji30))))) (fun _ hk => ⟨hk.1.1, hk.1.2⟩)⟩, ⟨by (with_reducible repeat (first | apply kN | apply kD | apply kA)); refine blk_far ?_ (by have h_ := Kd.R_ne HO_0.out BK311.out (by decide); intro e_; exact h_ (by rw [e_]; rfl)) _; (with_reducible repeat (first | apply kN | apply kD | apply kA)); exact BK311.out⟩, ⟨by repeat (first | (with_reducible first | exact HK.out | apply Kept.alloc | apply Kept.drewN | apply Kept.drew | refine Kept.setCell ?_ HMgo17.out _ | refine Kept.setCell ?_ (.inr GW311.out) _) | exact HK.out)⟩, ⟨by repeat (first | (with_reducible first | exact HB.out | apply bA | apply bN | apply b1 | refine bS ?_ GB17.out | refine bS ?_ GE311.out) | exact HB.out)⟩⟩
               ·rw [if_neg c29] at H
                exact absurd H (by simp)
             ·rw [if_neg c21] at H
              have c21b0 : ((rd x0_1 (rd t312 (ji12))) == 0) = false := beq_eq_false_iff_ne.mpr c21
              have c21b1 : ((rd x0_1 (rd t312 (ji12))) != 0) = true := bne_iff_ne.mpr c21
              simp only [Option.some.injEq, Prod.mk.injEq] at H
              obtain ⟨rfl, rfl⟩ := H
              have p315 : 0 ≤ (x23_1 : Int) := zA
              have q315 : x23_1 < (l2.length : Int) := zA
              obtain ⟨ad315, e315, hx315_0⟩ := Kd.at_int (Kd.C_kept_now HR2.out HK.out) x23_1 p315 q315
              cases e315
              replace p315 := eq_true p315
              replace q315 := eq_true q315
              obtain ⟨hcz35_0, hcz35_1, hcz35_2, hcz35_3, hcz35_4⟩ := kk5 BK311
              obtain ⟨hfz35_0, hfz35_1, hfz35_2, hfz35_3, hfz35_4⟩ := kg5 BK311
              obtain ⟨Ao36, co36, eo36⟩ := Kd.R_slice HO_7.out
              subst eo36
              have p316 : 0 ≤ ((ji12) : Int) := zA
              have q316 : (ji12) < (t312.length : Int) := zA
              obtain ⟨ad316, e316, hx316_0⟩ := Kd.at_int (Kd.R_reads' HO_7.out).2.2 (ji12) p316 q316
              cases e316
              replace p316 := eq_true p316
              replace q316 := eq_true q316
              have p17 : 0 ≤ ((rd t312 (ji12)) : Int) := zA
              have q17 : ((rd t312 (ji12)) : Int) < ((x0_1.length : Int) : Int) := zA
              obtain ⟨go17, co17, eo17, gb17, gl17, cl17, HG17⟩ := Kd.R_form HO_0.out (by omega)
              (first | cases eo17 | (injection eo17 with ea_ en_ ec_; (first | subst ea_ | (injection ea_ with ea_; subst ea_)); subst ec_; clear en_))
              have GB17 := aM gb17
              have GG17 := aM HG17
              clear gb17 gl17 HG17
              have HMgo17 := aM (show (P0_ go17 ∨ w.heap.size ≤ go17) from (HO_0.out.1 _ rfl).1)
              obtain ⟨hx17_0, hf17_0⟩ := Kd.R_celln 0 HO_0.out ((rd t312 (ji12)) : Int) p17 q17
              replace hx17_0 : World.cell? _ _ = some (Value.int .i64 (rd x0_1 (rd t312 (ji12)))) := hx17_0
              replace p17 := eq_true p17
              replace q17 := eq_true q17
              go_wp2_with (first | (go_at_call 101; (with_reducible refine (impl_within.calls (rd l2 x23_1) (-1) 1 true _ A18.out).mono ?_); rintro e w' ⟨rfl, ⟨nd, rfl⟩⟩))
              go_ret
              exact ⟨by first | rfl | (simp [errW_none, errW_some] <;> rfl) | (simp only [← hji12]; first | rfl | (simp [errW_none, errW_some] <;> rfl)) | (simp [*, errW_none, errW_some] <;> rfl), by (with_reducible repeat (first | apply Kd.R_alloc | apply Kd.R_drewN | apply Kd.R_drew)); exact Kd.R_mono HO_0.out (fun _ hk => hk.1), zH, by repeat (first | (with_reducible first | exact HK.out | apply Kept.alloc | apply Kept.drewN | apply Kept.drew | refine Kept.setCell ?_ (.inr GW311.out) _) | exact HK.out)⟩
            ·rw [if_neg c20] at H
             have c20b0 : decide ((rd l2 x23_1) < 0) = false := decide_eq_false c20
             clear c20
             by_cases c37 : (rd x0_1 (rd t312 (ji12))) < 0
             ·rw [if_pos c37] at H
              have c37b0 : decide ((rd x0_1 (rd t312 (ji12))) < 0) = true := decide_eq_true c37
              clear c37
              by_cases c38 : 0 ≤ a1_4
              ·rw [if_pos c38] at H
               have c38b0 := eq_true c38
               have c38b1 : decide (0 ≤ a1_4) = true := decide_eq_true c38
               clear c38
               obtain ⟨ji39, hji39⟩ : ∃ j_ : Int, (shl .i64 (wrap64 (-(rd l2 x23_1))) a1_4) = j_ := ⟨_, rfl⟩
               replace H : (impl_putRefine.l0 k1 (x0_1.set ((rd t312 (ji12)) : Int).toNat (wrap64 ((rd x0_1 (rd t312 (ji12))) + (ji39)))) t312 l2 (l2.length : Int) (wrap64 (x23_1 + 1)) l1_0 a1_1 a1_2 a1_3 a1_4) = some (r1, r2) := by first | (rw [hji39] at H; exact H) | (simp only [hji39] at H ⊢; exact H)
               (try rw [hji39] at A18)
               have hji39_ : (IntKind.i64.wrap ((wrap64 (-(rd l2 x23_1))) * 2 ^ min a1_4.toNat 64)) = ji39 := hji39
               have hji39z : a1_4 ≤ 64 → (IntKind.i64.wrap ((wrap64 (-(rd l2 x23_1))) * 2 ^ a1_4.toNat)) = ji39 := shl_small hji39
               have hji39y : (wrap64 ((wrap64 (-(rd l2 x23_1))) * 2 ^ min a1_4.toNat 64)) = ji39 := (i64_w _).symm.trans hji39_
               have hji39x : a1_4 ≤ 64 → (wrap64 ((wrap64 (-(rd l2 x23_1))) * 2 ^ a1_4.toNat)) = ji39 := fun h_ => (i64_w _).symm.trans (hji39z h_)
               obtain ⟨y320, hy320⟩ : ∃ y_ : List Int, y_ = (x0_1.set ((rd t312 (ji12)) : Int).toNat (wrap64 ((rd x0_1 (rd t312 (ji12))) + (ji39)))) := ⟨_, rfl⟩
               replace H : (impl_putRefine.l0 k1 y320 t312 l2 (l2.length : Int) (wrap64 (x23_1 + 1)) l1_0 a1_1 a1_2 a1_3 a1_4) = some (r1, r2) := by first | (rw [hy320]; with_reducible exact H) | (have H2_ := (Option.bind_some _ _).symm.trans H; rw [hy320]; with_reducible exact H2_) | (have H2_ := (Option.bind_some _ _).symm.trans H; with_reducible exact H2_) | with_reducible exact H | (rw [hy320]; exact H) | exact H
               have Ny320 := aM hy320
               clear hy320
               have H' := aM H
               clear H
               have p315 : 0 ≤ (x23_1 : Int) := zA
               have q315 : x23_1 < (l2.length : Int) := zA
               obtain ⟨ad315, e315, hx315_0⟩ := Kd.at_int (Kd.C_kept_now HR2.out HK.out) x23_1 p315 q315
               cases e315
               replace p315 := eq_true p315
               replace q315 := eq_true q315
               obtain ⟨hcz40_0, hcz40_1, hcz40_2, hcz40_3, hcz40_4⟩ := kk5 BK311
               obtain ⟨hfz40_0, hfz40_1, hfz40_2, hfz40_3, hfz40_4⟩ := kg5 BK311
               obtain ⟨Ao41, co41, eo41⟩ := Kd.R_slice HO_7.out
               subst eo41
               have p316 : 0 ≤ ((ji12) : Int) := zA
               have q316 : (ji12) < (t312.length : Int) := zA
               obtain ⟨ad316, e316, hx316_0⟩ := Kd.at_int (Kd.R_reads' HO_7.out).2.2 (ji12) p316 q316
               cases e316
               replace p316 := eq_true p316
               replace q316 := eq_true q316
               have p17 : 0 ≤ ((rd t312 (ji12)) : Int) := zA
               have q17 : ((rd t312 (ji12)) : Int) < ((x0_1.length : Int) : Int) := zA
               obtain ⟨go17, co17, eo17, gb17, gl17, cl17, HG17⟩ := Kd.R_form HO_0.out (by omega)
               (first | cases eo17 | (injection eo17 with ea_ en_ ec_; (first | subst ea_ | (injection ea_ with ea_; subst ea_)); subst ec_; clear en_))
               have GB17 := aM gb17
               have GG17 := aM HG17
               clear gb17 gl17 HG17
               have HMgo17 := aM (show (P0_ go17 ∨ w.heap.size ≤ go17) from (HO_0.out.1 _ rfl).1)
               obtain ⟨hx17_0, hf17_0⟩ := Kd.R_celln 0 HO_0.out ((rd t312 (ji12)) : Int) p17 q17
               replace hx17_0 : World.cell? _ _ = some (Value.int .i64 (rd x0_1 (rd t312 (ji12)))) := hx17_0
               replace p17 := eq_true p17
               replace q17 := eq_true q17
               try go_wp2_with (first | (go_at_call 101; (with_reducible refine (impl_within.calls (rd l2 x23_1) (-1) 1 true _ A18.out).mono ?_); rintro e w' ⟨rfl, ⟨nd, rfl⟩⟩; (try (rw [drewN_self wr]; generalize hq_ : World.drewN wr _ = wr; have n0_ : Aside0 (Kd.R (Kd.int .i64) 3 wr w0.heap.size (fun k_ => (P0_ k_ ∨ w.heap.size ≤ k_) ∧ some k_ ≠ (.slice (some ad316) t312.length co41 : Value).ownBlock) (.slice (some ⟨go17, 0, none⟩) x0_1.length co17) x0_1) := ⟨by rw [← hq_]; exact (by (with_reducible repeat (first | apply Kd.R_alloc | apply Kd.R_drewN | apply Kd.R_drew)); exact HO_0.out)⟩; have n1_ : Aside0 (Kd.R (Kd.int .i64) 3 wr w0.heap.size (fun k_ => (P0_ k_ ∨ w.heap.size ≤ k_) ∧ some k_ ≠ (.slice (some ⟨go17, 0, none⟩) x0_1.length co17 : Value).ownBlock) (.slice (some ad316) t312.length co41) t312) := ⟨by rw [← hq_]; exact (by (with_reducible repeat (first | apply Kd.R_alloc | apply Kd.R_drewN | apply Kd.R_drew)); exact HO_7.out)⟩; have n2_ : Aside0 (wr.heap[gb311]? = some (.cells #[.slice A1_0 l1_0.length c1_0, .int .i64 a1_1, .int .i64 a1_2, .int .i64 a1_3, .int .i64 a1_4] 28 (0, 0))) := ⟨by rw [← hq_]; exact (zK BK311)⟩; have n3_ : Aside0 (Kept w wr (fun k_ => P0_ k_)) := ⟨by rw [← hq_]; exact (by repeat (first | (with_reducible first | exact HK.out | apply Kept.alloc | apply Kept.drewN | apply Kept.drew | refine Kept.setCell ?_ (.inr GW311.out) _) | exact HK.out))⟩; have n4_ : Aside0 (Below w0.heap.size w0 wr) := ⟨by rw [← hq_]; exact zH⟩; (try have hs_ : World.cell? wr ⟨go17, ((rd t312 (ji12)) : Int).toNat, none⟩ = some (Value.int .i64 (rd x0_1 (rd t312 (ji12)))) := (by rw [← hq_]; exact hx17_0)); clear HO_0 HO_7 BK311 HK HB hq_; (try have hx17_0 := hs_); have HO_0 := n0_; have HO_7 := n1_; have BK311 := n2_; have HK := n3_; have HB := n4_; clear n0_ n1_ n2_ n3_ n4_))))
               have n0_ := aM (Kd.R_drew HO_0.out)
               have n1_ := aM (Kd.R_drew HO_7.out)
               have n2_ := aM (kD BK311.out)
               have n3_ := aM (Kept.drew HK.out)
               have n4_ := aM (b1 HB.out)
               clear HO_0
               clear HO_7
               clear BK311
               clear HK
               clear HB
               have HO_0 := n0_
               have HO_7 := n1_
               have BK311 := n2_
               have HK := n3_
               have HB := n4_
               clear n0_ n1_ n2_ n3_ n4_
               have HP43 := Kd.R_putn HO_0.out ((rd t312 (ji12)) : Int) (wrap64 ((rd x0_1 (rd t312 (ji12))) + (ji39)))
               rw [← Ny320.out] at HP43
               have HQ43 := aM HP43
               clear HP43
               refine start_ (n := 10) (S := fun w' => w'.cell? ⟨gb311, 0, none⟩ = some (.slice A1_0 l1_0.length c1_0) ∧ w'.cell? ⟨gb311, 1, none⟩ = some (.int .i64 a1_1) ∧ w'.cell? ⟨gb311, 2, none⟩ = some (.int .i64 a1_2) ∧ w'.cell? ⟨gb311, 3, none⟩ = some (.int .i64 a1_3) ∧ w'.cell? ⟨gb311, 4, none⟩ = some (.int .i64 a1_4) ∧ w'.cell? ⟨go17, ((rd t312 (ji12)) : Int).toNat, none⟩ = some (.int .i64 (rd x0_1 (rd t312 (ji12))))) (ds := [9]) #[false, false, false, false, false, false, false, false, false, false] (by kernel_rfl) rfl rfl ⟨(kC BK311.out 0).trans rfl, (kC BK311.out 1).trans rfl, (kC BK311.out 2).trans rfl, (kC BK311.out 3).trans rfl, (kC BK311.out 4).trans rfl, (by exact hx17_0)⟩ (fun hHeld => ?_); refine with_tabW impl_putRefine.tab12 impl_putRefine.bits12 (fun HT_ HW_ => ?_)
               generalize wr.drew = w42 at HO_0 HO_7 BK311 HK HB HQ43 hHeld ⊢
               obtain ⟨_, hf17_0⟩ := Kd.R_celln 0 HO_0.out ((rd t312 (ji12)) : Int) (of_eq_true p17) (of_eq_true q17)
               refine zP 0 (some 56) HT_ ?_
               refine zP 1 (some 57) HT_ ?_
               refine zP 3 (some 59) HT_ ?_
               refine zP 4 (some 60) HT_ ?_
               refine zT 2 (some 58) HT_ HW_ hHeld (hy := Or.inl ⟨by rfl, by rintro w' ⟨s0, s1, s2, s3, s4, s5⟩; go_simp; with_reducible rfl⟩) (h := ?_)
               refine zT 5 (some 61) HT_ HW_ hHeld (hy := Or.inl ⟨by rfl, by rintro w' ⟨s0, s1, s2, s3, s4, s5⟩; go_simp; with_reducible rfl⟩) (h := ?_)
               refine zP 6 (some 62) HT_ ?_
               refine zP 7 (some 63) HT_ ?_
               refine zP 8 (some 64) HT_ ?_
               refine last_ (i := 9) (N := none) #[true, true, true, true, true, true, true, true, true, true] rfl rfl (one_of HT_.out (by kernel_rfl)) (by decide) (fun K hK => ?_)
               refine skip_ (w1 := ?_) (by rfl) rfl ?_ ?_
               rotate_left
               ·go_simp
                rfl
               refine hK.out _ _ ?_
               clear hK K
               refine done_ (done_of HT_.out (by kernel_rfl)) ?_
               try go_wp2
               go_roundg k1
               case measure => have := HK1.out; omega
               case rel => exact ⟨(y320), (wrap64 (x23_1 + 1)), zS, H', ⟨by have := HK1.out; omega⟩, ⟨by (with_reducible repeat (first | apply Kd.R_alloc | apply Kd.R_drewN | apply Kd.R_drew)); exact HQ43.out⟩, ⟨by (with_reducible repeat (first | apply Kd.R_alloc | apply Kd.R_drewN | apply Kd.R_drew)); exact Kd.R_mono (Kd.R_far (p := ⟨go17, ((rd t312 (ji12)) : Int).toNat, none⟩) (Kd.R_mono HO_7.out (fun k_ hk => (⟨hk, fun e_ => hk.2 (by rw [e_]; rfl)⟩ : _ ∧ k_ ≠ go17))) (fun _ hk => hk.2) (.int .i64 (wrap64 ((rd x0_1 (rd t312 (ji12))) + (ji39))))) (fun _ hk => ⟨hk.1.1, hk.1.2⟩)⟩, ⟨by (with_reducible repeat (first | apply kN | apply kD | apply kA)); refine blk_far ?_ (by have h_ := Kd.R_ne HO_0.out BK311.out (by decide); intro e_; exact h_ (by rw [e_]; rfl)) _; (with_reducible repeat (first | apply kN | apply kD | apply kA)); exact BK311.out⟩, ⟨by repeat (first | (with_reducible first | exact HK.out | apply Kept.alloc | apply Kept.drewN | apply Kept.drew | refine Kept.setCell ?_ HMgo17.out _ | refine Kept.setCell ?_ (.inr GW311.out) _) | exact HK.out)⟩, ⟨by repeat (first | (with_reducible first | exact HB.out | apply bA | apply bN | apply b1 | refine bS ?_ GB17.out | refine bS ?_ GE311.out) | exact HB.out)⟩⟩
              ·rw [if_neg c38] at H
               exact absurd H (by simp)
             ·rw [if_neg c37] at H
              have c37b0 : decide ((rd x0_1 (rd t312 (ji12))) < 0) = false := decide_eq_false c37
              clear c37
              by_cases c44 : 0 ≤ a1_4
              ·rw [if_pos c44] at H
               have c44b0 := eq_true c44
               have c44b1 : decide (0 ≤ a1_4) = true := decide_eq_true c44
               clear c44
               obtain ⟨ji45, hji45⟩ : ∃ j_ : Int, (shl .i64 (rd l2 x23_1) a1_4) = j_ := ⟨_, rfl⟩
               replace H : (impl_putRefine.l0 k1 (x0_1.set ((rd t312 (ji12)) : Int).toNat (wrap64 ((rd x0_1 (rd t312 (ji12))) + (ji45)))) t312 l2 (l2.length : Int) (wrap64 (x23_1 + 1)) l1_0 a1_1 a1_2 a1_3 a1_4) = some (r1, r2) := by first | (rw [hji45] at H; exact H) | (simp only [hji45] at H ⊢; exact H)
               (try rw [hji45] at A18)
               have hji45_ : (IntKind.i64.wrap ((rd l2 x23_1) * 2 ^ min a1_4.toNat 64)) = ji45 := hji45
               have hji45z : a1_4 ≤ 64 → (IntKind.i64.wrap ((rd l2 x23_1) * 2 ^ a1_4.toNat)) = ji45 := shl_small hji45
               have hji45y : (wrap64 ((rd l2 x23_1) * 2 ^ min a1_4.toNat 64)) = ji45 := (i64_w _).symm.trans hji45_
               have hji45x : a1_4 ≤ 64 → (wrap64 ((rd l2 x23_1) * 2 ^ a1_4.toNat)) = ji45 := fun h_ => (i64_w _).symm.trans (hji45z h_)
               obtain ⟨y321, hy321⟩ : ∃ y_ : List Int, y_ = (x0_1.set ((rd t312 (ji12)) : Int).toNat (wrap64 ((rd x0_1 (rd t312 (ji12))) + (ji45)))) := ⟨_, rfl⟩
               replace H : (impl_putRefine.l0 k1 y321 t312 l2 (l2.length : Int) (wrap64 (x23_1 + 1)) l1_0 a1_1 a1_2 a1_3 a1_4) = some (r1, r2) := by first | (rw [hy321]; with_reducible exact H) | (have H2_ := (Option.bind_some _ _).symm.trans H; rw [hy321]; with_reducible exact H2_) | (have H2_ := (Option.bind_some _ _).symm.trans H; with_reducible exact H2_) | with_reducible exact H | (rw [hy321]; exact H) | exact H
               have Ny321 := aM hy321
               clear hy321
               have H' := aM H
               clear H
               have p315 : 0 ≤ (x23_1 : Int) := zA
               have q315 : x23_1 < (l2.length : Int) := zA
               obtain ⟨ad315, e315, hx315_0⟩ := Kd.at_int (Kd.C_kept_now HR2.out HK.out) x23_1 p315 q315
               cases e315
               replace p315 := eq_true p315
               replace q315 := eq_true q315
               obtain ⟨hcz46_0, hcz46_1, hcz46_2, hcz46_3, hcz46_4⟩ := kk5 BK311
               obtain ⟨hfz46_0, hfz46_1, hfz46_2, hfz46_3, hfz46_4⟩ := kg5 BK311
               obtain ⟨Ao47, co47, eo47⟩ := Kd.R_slice HO_7.out
               subst eo47
               have p316 : 0 ≤ ((ji12) : Int) := zA
               have q316 : (ji12) < (t312.length : Int) := zA
               obtain ⟨ad316, e316, hx316_0⟩ := Kd.at_int (Kd.R_reads' HO_7.out).2.2 (ji12) p316 q316
               cases e316
               replace p316 := eq_true p316
               replace q316 := eq_true q316
               have p17 : 0 ≤ ((rd t312 (ji12)) : Int) := zA
               have q17 : ((rd t312 (ji12)) : Int) < ((x0_1.length : Int) : Int) := zA
               obtain ⟨go17, co17, eo17, gb17, gl17, cl17, HG17⟩ := Kd.R_form HO_0.out (by omega)
               (first | cases eo17 | (injection eo17 with ea_ en_ ec_; (first | subst ea_ | (injection ea_ with ea_; subst ea_)); subst ec_; clear en_))
               have GB17 := aM gb17
               have GG17 := aM HG17
               clear gb17 gl17 HG17
               have HMgo17 := aM (show (P0_ go17 ∨ w.heap.size ≤ go17) from (HO_0.out.1 _ rfl).1)
               obtain ⟨hx17_0, hf17_0⟩ := Kd.R_celln 0 HO_0.out ((rd t312 (ji12)) : Int) p17 q17
               replace hx17_0 : World.cell? _ _ = some (Value.int .i64 (rd x0_1 (rd t312 (ji12)))) := hx17_0
               replace p17 := eq_true p17
               replace q17 := eq_true q17
               try go_wp2_with (first | (go_at_call 101; (with_reducible refine (impl_within.calls (rd l2 x23_1) (-1) 1 true _ A18.out).mono ?_); rintro e w' ⟨rfl, ⟨nd, rfl⟩⟩; (try (rw [drewN_self wr]; generalize hq_ : World.drewN wr _ = wr; have n0_ : Aside0 (Kd.R (Kd.int .i64) 3 wr w0.heap.size (fun k_ => (P0_ k_ ∨ w.heap.size ≤ k_) ∧ some k_ ≠ (.slice (some ad316) t312.length co47 : Value).ownBlock) (.slice (some ⟨go17, 0, none⟩) x0_1.length co17) x0_1) := ⟨by rw [← hq_]; exact (by (with_reducible repeat (first | apply Kd.R_alloc | apply Kd.R_drewN | apply Kd.R_drew)); exact HO_0.out)⟩; have n1_ : Aside0 (Kd.R (Kd.int .i64) 3 wr w0.heap.size (fun k_ => (P0_ k_ ∨ w.heap.size ≤ k_) ∧ some k_ ≠ (.slice (some ⟨go17, 0, none⟩) x0_1.length co17 : Value).ownBlock) (.slice (some ad316) t312.length co47) t312) := ⟨by rw [← hq_]; exact (by (with_reducible repeat (first | apply Kd.R_alloc | apply Kd.R_drewN | apply Kd.R_drew)); exact HO_7.out)⟩; have n2_ : Aside0 (wr.heap[gb311]? = some (.cells #[.slice A1_0 l1_0.length c1_0, .int .i64 a1_1, .int .i64 a1_2, .int .i64 a1_3, .int .i64 a1_4] 28 (0, 0))) := ⟨by rw [← hq_]; exact (zK BK311)⟩; have n3_ : Aside0 (Kept w wr (fun k_ => P0_ k_)) := ⟨by rw [← hq_]; exact (by repeat (first | (with_reducible first | exact HK.out | apply Kept.alloc | apply Kept.drewN | apply Kept.drew | refine Kept.setCell ?_ (.inr GW311.out) _) | exact HK.out))⟩; have n4_ : Aside0 (Below w0.heap.size w0 wr) := ⟨by rw [← hq_]; exact zH⟩; (try have hs_ : World.cell? wr ⟨go17, ((rd t312 (ji12)) : Int).toNat, none⟩ = some (Value.int .i64 (rd x0_1 (rd t312 (ji12)))) := (by rw [← hq_]; exact hx17_0)); clear HO_0 HO_7 BK311 HK HB hq_; (try have hx17_0 := hs_); have HO_0 := n0_; have HO_7 := n1_; have BK311 := n2_; have HK := n3_; have HB := n4_; clear n0_ n1_ n2_ n3_ n4_))))
               have n0_ := aM (Kd.R_drew HO_0.out)
               have n1_ := aM (Kd.R_drew HO_7.out)
               have n2_ := aM (kD BK311.out)
               have n3_ := aM (Kept.drew HK.out)
               have n4_ := aM (b1 HB.out)
               clear HO_0
               clear HO_7
               clear BK311
               clear HK
               clear HB
               have HO_0 := n0_
               have HO_7 := n1_
               have BK311 := n2_
               have HK := n3_
               have HB := n4_
               clear n0_ n1_ n2_ n3_ n4_
               have HP49 := Kd.R_putn HO_0.out ((rd t312 (ji12)) : Int) (wrap64 ((rd x0_1 (rd t312 (ji12))) + (ji45)))
               rw [← Ny321.out] at HP49
               have HQ49 := aM HP49
               clear HP49
               refine start_ (n := 10) (S := fun w' => w'.cell? ⟨gb311, 0, none⟩ = some (.slice A1_0 l1_0.length c1_0) ∧ w'.cell? ⟨gb311, 1, none⟩ = some (.int .i64 a1_1) ∧ w'.cell? ⟨gb311, 2, none⟩ = some (.int .i64 a1_2) ∧ w'.cell? ⟨gb311, 3, none⟩ = some (.int .i64 a1_3) ∧ w'.cell? ⟨gb311, 4, none⟩ = some (.int .i64 a1_4) ∧ w'.cell? ⟨go17, ((rd t312 (ji12)) : Int).toNat, none⟩ = some (.int .i64 (rd x0_1 (rd t312 (ji12))))) (ds := [9]) #[false, false, false, false, false, false, false, false, false, false] (by kernel_rfl) rfl rfl ⟨(kC BK311.out 0).trans rfl, (kC BK311.out 1).trans rfl, (kC BK311.out 2).trans rfl, (kC BK311.out 3).trans rfl, (kC BK311.out 4).trans rfl, (by exact hx17_0)⟩ (fun hHeld => ?_); refine with_tabW impl_putRefine.tab12 impl_putRefine.bits12 (fun HT_ HW_ => ?_)
               generalize wr.drew = w48 at HO_0 HO_7 BK311 HK HB HQ49 hHeld ⊢
               obtain ⟨_, hf17_0⟩ := Kd.R_celln 0 HO_0.out ((rd t312 (ji12)) : Int) (of_eq_true p17) (of_eq_true q17)
               refine zP 0 (some 56) HT_ ?_
               refine zP 1 (some 57) HT_ ?_
               refine zP 3 (some 59) HT_ ?_
               refine zP 4 (some 60) HT_ ?_
               refine zT 2 (some 58) HT_ HW_ hHeld (hy := Or.inl ⟨by rfl, by rintro w' ⟨s0, s1, s2, s3, s4, s5⟩; go_simp; with_reducible rfl⟩) (h := ?_)
               refine zT 5 (some 61) HT_ HW_ hHeld (hy := Or.inl ⟨by rfl, by rintro w' ⟨s0, s1, s2, s3, s4, s5⟩; go_simp; with_reducible rfl⟩) (h := ?_)
               refine zP 6 (some 62) HT_ ?_
               refine zP 7 (some 63) HT_ ?_
               refine zP 8 (some 64) HT_ ?_
               refine last_ (i := 9) (N := none) #[true, true, true, true, true, true, true, true, true, true] rfl rfl (one_of HT_.out (by kernel_rfl)) (by decide) (fun K hK => ?_)
               refine skip_ (w1 := ?_) (by rfl) rfl ?_ ?_
               rotate_left
               ·go_simp
                rfl
               refine hK.out _ _ ?_
               clear hK K
               refine done_ (done_of HT_.out (by kernel_rfl)) ?_
               try go_wp2
               go_roundg k1
               case measure => have := HK1.out; omega
               case rel => exact ⟨(y321), (wrap64 (x23_1 + 1)), zS, H', ⟨by have := HK1.out; omega⟩, ⟨by (with_reducible repeat (first | apply Kd.R_alloc | apply Kd.R_drewN | apply Kd.R_drew)); exact HQ49.out⟩, ⟨by (with_reducible repeat (first | apply Kd.R_alloc | apply Kd.R_drewN | apply Kd.R_drew)); exact Kd.R_mono (Kd.R_far (p := ⟨go17, ((rd t312 (ji12)) : Int).toNat, none⟩) (Kd.R_mono HO_7.out (fun k_ hk => (⟨hk, fun e_ => hk.2 (by rw [e_]; rfl)⟩ : _ ∧ k_ ≠ go17))) (fun _ hk => hk.2) (.int .i64 (wrap64 ((rd x0_1 (rd t312 (ji12))) + (ji45))))) (fun _ hk => ⟨hk.1.1, hk.1.2⟩)⟩, ⟨by (with_reducible repeat (first | apply kN | apply kD | apply kA)); refine blk_far ?_ (by have h_ := Kd.R_ne HO_0.out BK311.out (by decide); intro e_; exact h_ (by rw [e_]; rfl)) _; (with_reducible repeat (first | apply kN | apply kD | apply kA)); exact BK311.out⟩, ⟨by repeat (first | (with_reducible first | exact HK.out | apply Kept.alloc | apply Kept.drewN | apply Kept.drew | refine Kept.setCell ?_ HMgo17.out _ | refine Kept.setCell ?_ (.inr GW311.out) _) | exact HK.out)⟩, ⟨by repeat (first | (with_reducible first | exact HB.out | apply bA | apply bN | apply b1 | refine bS ?_ GB17.out | refine bS ?_ GE311.out) | exact HB.out)⟩⟩
              ·rw [if_neg c44] at H
               exact absurd H (by simp)
           ·replace c19 := Bool.eq_false_iff.mpr c19
            subst c19
            replace H := iF H
            simp only [Option.some.injEq, Prod.mk.injEq] at H
            obtain ⟨rfl, rfl⟩ := H
            have p315 : 0 ≤ (x23_1 : Int) := zA
            have q315 : x23_1 < (l2.length : Int) := zA
            obtain ⟨ad315, e315, hx315_0⟩ := Kd.at_int (Kd.C_kept_now HR2.out HK.out) x23_1 p315 q315
            cases e315
            replace p315 := eq_true p315
            replace q315 := eq_true q315
            obtain ⟨hcz50_0, hcz50_1, hcz50_2, hcz50_3, hcz50_4⟩ := kk5 BK311
            obtain ⟨hfz50_0, hfz50_1, hfz50_2, hfz50_3, hfz50_4⟩ := kg5 BK311
            obtain ⟨Ao51, co51, eo51⟩ := Kd.R_slice HO_7.out
            subst eo51
            have p316 : 0 ≤ ((ji12) : Int) := zA
            have q316 : (ji12) < (t312.length : Int) := zA
            obtain ⟨ad316, e316, hx316_0⟩ := Kd.at_int (Kd.R_reads' HO_7.out).2.2 (ji12) p316 q316
            cases e316
            replace p316 := eq_true p316
            replace q316 := eq_true q316
            have p17 : 0 ≤ ((rd t312 (ji12)) : Int) := zA
            have q17 : ((rd t312 (ji12)) : Int) < ((x0_1.length : Int) : Int) := zA
            obtain ⟨go17, co17, eo17, gb17, gl17, cl17, HG17⟩ := Kd.R_form HO_0.out (by omega)
            (first | cases eo17 | (injection eo17 with ea_ en_ ec_; (first | subst ea_ | (injection ea_ with ea_; subst ea_)); subst ec_; clear en_))
            have GB17 := aM gb17
            have GG17 := aM HG17
            clear gb17 gl17 HG17
            have HMgo17 := aM (show (P0_ go17 ∨ w.heap.size ≤ go17) from (HO_0.out.1 _ rfl).1)
            obtain ⟨hx17_0, hf17_0⟩ := Kd.R_celln 0 HO_0.out ((rd t312 (ji12)) : Int) p17 q17
            replace hx17_0 : World.cell? _ _ = some (Value.int .i64 (rd x0_1 (rd t312 (ji12)))) := hx17_0
            replace p17 := eq_true p17
            replace q17 := eq_true q17
            go_wp2_with (first | (go_at_call 101; (with_reducible refine (impl_within.calls (rd l2 x23_1) (-1) 1 false _ A18.out).mono ?_); rintro e w' ⟨rfl, ⟨nd, rfl⟩⟩))
            go_ret
            exact ⟨by first | rfl | (simp [errW_none, errW_some] <;> rfl) | (simp only [← hji12]; first | rfl | (simp [errW_none, errW_some] <;> rfl)) | (simp [*, errW_none, errW_some] <;> rfl), by (with_reducible repeat (first | apply Kd.R_alloc | apply Kd.R_drewN | apply Kd.R_drew)); exact Kd.R_mono HO_0.out (fun _ hk => hk.1), zH, by repeat (first | (with_reducible first | exact HK.out | apply Kept.alloc | apply Kept.drewN | apply Kept.drew | refine Kept.setCell ?_ (.inr GW311.out) _) | exact HK.out)⟩
          ·rw [if_neg c16] at H
           exact absurd H (by simp)
         ·rw [if_neg c15] at H
          exact absurd H (by simp)
        ·rw [if_neg c14] at H
         exact absurd H (by simp)
       ·rw [if_neg c13] at H
        exact absurd H (by simp)
      ·rw [if_neg c11] at H
       exact absurd H (by simp)
     ·rw [if_neg c10] at H
      exact absurd H (by simp)
    ·rw [if_neg c9] at H
     have c9b0 : decide (x23_1 < (l2.length : Int)) = false := decide_eq_false c9
     clear c9
     obtain ⟨t322, A52, H⟩ := oH H
     simp only [Option.some.injEq, Prod.mk.injEq] at H
     obtain ⟨rfl, rfl⟩ := H
     obtain ⟨Ao53, co53, eo53⟩ := Kd.R_slice HO_0.out
     subst eo53
     go_wp2_with (first | (go_at_call 73; (with_reducible refine (impl_isLevels.calls k1 _ _ x0_1 t322 _ ?side1 ?side2 A52.out).mono ?_); (case side1 => exact zC (Kd.R_reads' HO_0.out).2.2); (case side2 => exact (Kd.R_reads' HO_0.out).2.1); rintro e w' ⟨rfl, ⟨nd, rfl⟩⟩))
     go_ret
     exact ⟨zR, by (with_reducible repeat (first | apply Kd.R_alloc | apply Kd.R_drewN | apply Kd.R_drew)); exact Kd.R_mono HO_0.out (fun _ hk => hk.1), zH, by repeat (first | (with_reducible first | exact HK.out | apply Kept.alloc | apply Kept.drewN | apply Kept.drew | refine Kept.setCell ?_ (.inr GW311.out) _) | exact HK.out)⟩
 ·rw [if_neg c5] at H
  have c5b0 : ((l2.length : Int) == (wrap64 ((wrap64 (a1_2 - a1_1)) + 1))) = false := beq_eq_false_iff_ne.mpr c5
  have c5b1 : ((l2.length : Int) != (wrap64 ((wrap64 (a1_2 - a1_1)) + 1))) = true := bne_iff_ne.mpr c5
  simp only [Option.some.injEq, Prod.mk.injEq] at H
  obtain ⟨rfl, rfl⟩ := H
  go_enter Try.func81, Try.ntmps81
  go_wp2_with (first | ((with_reducible refine gate_dst (N := 4) rfl ?_); refine box_event ?hg (N := 4) ?hd (cs := #[.slice A1_0 l1_0.length c1_0, .int .i64 a1_1, .int .i64 a1_2, .int .i64 a1_3, .int .i64 a1_4]) (t := 28) ?hr ?_; (case hd => rfl); (case hg => rfl); (case hr => first | (go_simp; done) | (go_simp; rfl)); intro gb311 hg w54 hbox hb; replace HO0 := aM (Kd.R_below (by (with_reducible repeat (first | apply Kd.R_alloc | apply Kd.R_drewN | apply Kd.R_drew)); exact HO0.out) hb); have BK311 := aM hbox; have GW311 := aM ((by rw [hg]; exact (by first | exact HK.out.1 | exact (show Kept w _ (fun k_ => P0_ k_) from by repeat (first | (with_reducible first | exact HK.out | apply Kept.alloc | apply Kept.drewN | apply Kept.drew) | exact HK.out)).1) : w.heap.size ≤ gb311)); replace HK := aM (Kept.below (S := (fun k_ => P0_ k_)) (by repeat (first | (with_reducible first | exact HK.out | apply Kept.alloc | apply Kept.drewN | apply Kept.drew) | exact HK.out)) hb); have GE311 := aM (zG hg : w0.heap.size ≤ gb311); replace HB := cH HB hb; clear hb hbox hg) | (go_at_call 118; (with_reducible refine (impl_zigZag.calls k  t312 _ A4.out).mono ?_); rintro e w55 ⟨v313, rfl, ho0, hb⟩; have HO314 := aM (Kd.R_lower (Kd.R_new' (Kd.R_newM (M := fun k_ => (P0_ k_ ∨ w.heap.size ≤ k_)) ho0 (by first | exact HK.out.1 | exact (show Kept w _ (fun k_ => P0_ k_) from by repeat (first | (with_reducible first | exact HK.out | apply Kept.alloc | apply Kept.drewN | apply Kept.drew | refine Kept.setCell ?_ (.inr GW311.out) _) | exact HK.out)).1) (fun k_ h_ => .inr h_)) (Kd.R_lt (by (with_reducible repeat (first | apply Kd.R_alloc | apply Kd.R_drewN | apply Kd.R_drew)); exact HO0.out))) (below_size zH)); replace HO0 := aM (Kd.R_elder' (by (with_reducible repeat (first | apply Kd.R_alloc | apply Kd.R_drewN | apply Kd.R_drew)); exact HO0.out) (Kd.R_base ho0) hb); replace BK311 := cB BK311 hb; replace HK := aM (Kept.below (S := (fun k_ => P0_ k_)) (by repeat (first | (with_reducible first | exact HK.out | apply Kept.alloc | apply Kept.drewN | apply Kept.drew | refine Kept.setCell ?_ (.inr GW311.out) _) | exact HK.out)) hb); replace HB := cH HB hb; (try clear hb); (try clear ho0); obtain ⟨hcz56_0, hcz56_1, hcz56_2, hcz56_3, hcz56_4⟩ := kk5 BK311; obtain ⟨hfz56_0, hfz56_1, hfz56_2, hfz56_3, hfz56_4⟩ := kg5 BK311))
  go_ret
  exact ⟨zR, by (with_reducible repeat (first | apply Kd.R_alloc | apply Kd.R_drewN | apply Kd.R_drew)); exact Kd.R_mono HO0.out (fun _ hk => hk.1), zH, by repeat (first | (with_reducible first | exact HK.out | apply Kept.alloc | apply Kept.drewN | apply Kept.drew | refine Kept.setCell ?_ (.inr GW311.out) _) | exact HK.out)⟩

end Go.Proofs.Ythajjjpblkhmmaa.CP
