/- Functions that a law of this seat reaches: written by a program of this session (wip/xprint.py), and by hand. -/
import Derived.Test.YthajjjpblkhmmaaYMac
import Derived.Test.YthajjjpblkhmmaaYCBx0
import Derived.Test.YthajjjpblkhmmaaYCBx5
import Derived.Test.YthajjjpblkhmmaaYCBx6
import Derived.Test.YthajjjpblkhmmaaYCBx7
namespace Go.Proofs.Ythajjjpblkhmmaa.CB
open Go.RowKit Go.Proofs.Ythajjjpblkhmmaa.B Go.Proofs.YthajjjpblkhmmaaW.PrintWords Go.Proofs.YthajjjpblkhmmaaW.PrintLast Go.Proofs.YthajjjpblkhmmaaW.PrintMore
attribute [local go_sem] max2_int min2_int max_two min_two max_three min_three max_four min_four   -- for this text's walks alone
set_option linter.unusedVariables false
set_option linter.unusedSimpArgs false

/-! ### spec_CoefsOk: function 55 -/
mutual
def spec_CoefsOk.j0 : Nat → Bool → Int → Int → Int → Int → List (S42) → List (List (List Int)) → Option (Bool)
  | 0, _, _, _, _, _, _, _ => none
  | k + 1, x21, x228000, x228001, x228002, x228003, x228004, x229000 => if x21 = true then (some false) else (spec_CoefsOk.l0 k 0 x228000 x228001 x228002 x228003 x228004 x229000)
def spec_CoefsOk.l0 : Nat → Int → Int → Int → Int → Int → List (S42) → List (List (List Int)) → Option (Bool)
  | 0, _, _, _, _, _, _, _ => none
  | k + 1, x5, x228000, x228001, x228002, x228003, x228004, x229000 => if x5 < (x229000.length : Int) then ((spec_l04Blocks.f k x228000 x228001 x228002 x228003 x228004 x5).bind fun bt230 => (if 0 ≤ x5 then (if ((rd_L4 x229000 x5).length : Int) = (wrap64 (bt230.1 * bt230.2)) then (spec_CoefsOk.l1 k x5 bt230.1 bt230.2 0 x228000 x228001 x228002 x228003 x228004 x229000) else (some false)) else (none))) else (some true)
def spec_CoefsOk.l1 : Nat → Int → Int → Int → Int → Int → Int → Int → Int → List (S42) → List (List (List Int)) → Option (Bool)
  | 0, _, _, _, _, _, _, _, _, _, _ => none
  | k + 1, x5, x6, x7, x8, x228000, x228001, x228002, x228003, x228004, x229000 => if x8 < (wrap64 (x6 * x7)) then (if 0 ≤ x5 then (if x5 < (x229000.length : Int) then (if 0 ≤ x8 then (if x8 < ((rd_L4 x229000 x5).length : Int) then ((spec_l11Level.f k (rd_L3 (rd_L4 x229000 x5) x8)).bind fun t235 => (if t235 = true then (if x6 = 0 then (none) else ((spec_l11Hidden.f k x228000 x228001 x228002 x228003 x228004 x5 (wrap64 (Int.tdiv x8 x6)) (Int.tmod x8 x6)).bind fun t236 => (if t236 = true then ((spec_l11Zero.f k (rd_L3 (rd_L4 x229000 x5) x8)).bind fun t237 => (if t237 = true then (spec_CoefsOk.l1 k x5 x6 x7 (wrap64 (x8 + 1)) x228000 x228001 x228002 x228003 x228004 x229000) else (some false))) else (spec_CoefsOk.l1 k x5 x6 x7 (wrap64 (x8 + 1)) x228000 x228001 x228002 x228003 x228004 x229000)))) else (some false))) else (none)) else (none)) else (none)) else (none)) else (spec_CoefsOk.l0 k (wrap64 (x5 + 1)) x228000 x228001 x228002 x228003 x228004 x229000)
end
def spec_CoefsOk.f (k : Nat) (a0_0 : Int) (a0_1 : Int) (a0_2 : Int) (a0_3 : Int) (l0_4 : List (S42)) (l1_0 : List (List (List Int))) : Option (Bool) := (spec_FrameOk.f k a0_0 a0_1 a0_2 a0_3 l0_4).bind fun t229 => (if t229 = true then (spec_CoefsOk.j0 k ((l1_0.length : Int) != (l0_4.length : Int)) a0_0 a0_1 a0_2 a0_3 l0_4 l1_0) else (spec_CoefsOk.j0 k true a0_0 a0_1 a0_2 a0_3 l0_4 l1_0))
def spec_CoefsOk.T13 : Bool × List (List Nat × List Nat) := (true, [([], []), ([0], [0]), ([1], [1]), ([2, 1], [2]), ([3], [3]), ([3], [3]), ([3], [3]), ([3], [3]), ([6, 7, 3], [3, 6, 7]), ([3], [3]), ([3], [3]), ([9, 10, 3], [3, 9, 10]), ([5, 8, 11, 3], [3, 5, 8, 11]), ([4, 12, 3, 3], [3, 4, 12]), ([13, 13, 3], [3, 13]), ([14], [14]), ([15, 14, 14], [14, 15]), ([16, 14], [14, 16]), ([14, 17, 3], [3, 14, 17]), ([3, 18], [3, 18])])
def spec_CoefsOk.B13 : List Nat := [0, 1, 3, 7, 15, 15, 15, 15, 207, 15, 15, 1551, 4079, 8191, 16383, 32767, 65535, 131071, 262143, 524287]
theorem spec_CoefsOk.tab13 : rtab .any (opsOf Try.f55 13) = spec_CoefsOk.T13 := by kernel_rfl
theorem spec_CoefsOk.bits13 : waitsOk spec_CoefsOk.T13.2 spec_CoefsOk.B13 = true := by kernel_rfl
set_option maxHeartbeats 8000000 in
set_option maxRecDepth 100000 in
theorem spec_CoefsOk.calls (k : Nat) (a0_0 : Int) (a0_1 : Int) (a0_2 : Int) (a0_3 : Int) (A0_4 : Option Addr) (c0_4 : Nat) (l0_4 : List (S42)) (A1_0 : Option Addr) (c1_0 : Nat) (l1_0 : List (List (List Int))) (r : Bool) (w : World) (hr0_4 : Kd.C k42 w A0_4 l0_4.length l0_4) (hc0_4 : l0_4.length ≤ c0_4) (hr1_0 : Kd.C (Kd.slice 22 (Kd.slice 3 (Kd.int .i64))) w A1_0 l1_0.length l1_0) (hc1_0 : l1_0.length ≤ c1_0) (h : spec_CoefsOk.f k a0_0 a0_1 a0_2 a0_3 l0_4 l1_0 = some r) :
  Calls Try.prog 55 #[.agg #[.int .i64 a0_0, .int .i64 a0_1, .int .i64 a0_2, .int .i64 a0_3, .slice A0_4 l0_4.length c0_4], .agg #[.slice A1_0 l1_0.length c1_0]] w fun e w' => e = .returned (.bool r) ∧ Below w.heap.size w w' := by
 have hu45 := Try.underlying45
 have hu63 := Try.underlying63
 have hu87 := Try.underlying87
 have HR0_4 := aM hr0_4
 have HC0_4 := aM hc0_4
 clear hr0_4 hc0_4
 have HR1_0 := aM hr1_0
 have HC1_0 := aM hc1_0
 clear hr1_0 hc1_0
 have HB := aM (Below.refl w.heap.size w)
 have H : ((spec_FrameOk.f k a0_0 a0_1 a0_2 a0_3 l0_4).bind fun t229 => (if t229 = true then (spec_CoefsOk.j0 k ((l1_0.length : Int) != (l0_4.length : Int)) a0_0 a0_1 a0_2 a0_3 l0_4 l1_0) else (spec_CoefsOk.j0 k true a0_0 a0_1 a0_2 a0_3 l0_4 l1_0))) = some r := h
 clear h
 have HC3 := aM H
 clear H
 go_enter Try.func55, Try.ntmps55
 go_upto_region 1 with (first | ((with_reducible refine gate_dst (N := 2) rfl ?_); (try (refine gate_guard (by rfl) ?_; dsimp only)); refine box_event ?hg (N := 2) ?hd (cs := #[.int .i64 a0_0, .int .i64 a0_1, .int .i64 a0_2, .int .i64 a0_3, .slice A0_4 l0_4.length c0_4]) (t := 45) ?hr ?_; (case hd => rfl); (case hg => rfl); (case hr => first | (go_simp; done) | (go_simp; rfl)); intro gb227 hg w4 hbox hb; have BK227 := aM hbox; have GW227 := aM (zG hg : w.heap.size ≤ gb227); have GE227 := aM (zG hg : w.heap.size ≤ gb227); replace HB := cH HB hb; clear hb hbox hg) | ((with_reducible refine gate_dst (N := 3) rfl ?_); (try (refine gate_guard (by rfl) ?_; dsimp only)); refine box_event ?hg (N := 3) ?hd (cs := #[.slice A1_0 l1_0.length c1_0]) (t := 63) ?hr ?_; (case hd => rfl); (case hg => rfl); (case hr => first | (go_simp; done) | (go_simp; rfl)); intro gb228 hg w5 hbox hb; have BK228 := aM hbox; have GW228 := aM (zG hg : w.heap.size ≤ gb228); have GE228 := aM (zG hg : w.heap.size ≤ gb228); replace HB := cH HB hb; have NB227_228 := aM ((zL hg BK227)); have NB228_227 := aM ((zM hg BK227)); replace BK227 := cB BK227 hb; clear hb hbox hg))
 (try simp only [Act.put, List.setIfInBounds_toArray, List.set_cons_zero, List.set_cons_succ])
 go_cut [21] (fun v21 wc => ∃ (kq : Nat) (x21_2 : Bool), v21 = .bool x21_2 ∧ Aside0 (spec_CoefsOk.j0 kq x21_2 a0_0 a0_1 a0_2 a0_3 l0_4 l1_0 = some r) ∧ Aside0 (kq ≤ k) ∧ Aside0 (wc.heap[gb227]? = some (.cells #[.int .i64 a0_0, .int .i64 a0_1, .int .i64 a0_2, .int .i64 a0_3, (.slice A0_4 l0_4.length c0_4)] 45 (0, 0))) ∧ Aside0 (wc.heap[gb228]? = some (.cells #[(.slice A1_0 l1_0.length c1_0)] 63 (0, 0))) ∧ Aside0 (Below w.heap.size w wc))
 case first =>
  have H := HC3.out
  clear HC3
  obtain ⟨t229, A6, H⟩ := oH H
  by_cases c7 : t229 = true
  ·subst c7
   replace H := iT H
   have H' := aM H
   clear H
   have hnb8 := NB227_228.out
   have hnc8 := NB228_227.out
   obtain ⟨hcz9_0, hcz9_1, hcz9_2, hcz9_3, hcz9_4⟩ := kk5 BK227
   obtain ⟨hfz9_0, hfz9_1, hfz9_2, hfz9_3, hfz9_4⟩ := kg5 BK227
   go_wp2_with (first | (go_at_call 85; (with_reducible refine (spec_FrameOk.calls k a0_0 a0_1 a0_2 a0_3 _ _ l0_4 true _ ?side1 ?side2 A6.out).mono ?_); (case side1 => exact zC (Kd.C_below HR0_4.out HB.out)); (case side2 => exact HC0_4.out); rintro e w10 ⟨rfl, hb⟩; replace BK227 := cB BK227 hb; replace BK228 := cB BK228 hb; replace HB := cH HB hb; (try clear hb); have hcz11_0 := kk1 BK228; have hfz11_0 := kg1 BK228; obtain ⟨hcz12_0, hcz12_1, hcz12_2, hcz12_3, hcz12_4⟩ := kk5 BK227; obtain ⟨hfz12_0, hfz12_1, hfz12_2, hfz12_3, hfz12_4⟩ := kg5 BK227))
   go_meet
   case rel => exact ⟨_, (((l1_0.length : Int) != (l0_4.length : Int))), zS, H', zO, ⟨zK BK227⟩, ⟨zK BK228⟩, ⟨zH⟩⟩
  ·replace c7 := Bool.eq_false_iff.mpr c7
   subst c7
   replace H := iF H
   have H' := aM H
   clear H
   have hnb13 := NB227_228.out
   have hnc13 := NB228_227.out
   obtain ⟨hcz14_0, hcz14_1, hcz14_2, hcz14_3, hcz14_4⟩ := kk5 BK227
   obtain ⟨hfz14_0, hfz14_1, hfz14_2, hfz14_3, hfz14_4⟩ := kg5 BK227
   go_wp2_with (first | (go_at_call 85; (with_reducible refine (spec_FrameOk.calls k a0_0 a0_1 a0_2 a0_3 _ _ l0_4 false _ ?side1 ?side2 A6.out).mono ?_); (case side1 => exact zC (Kd.C_below HR0_4.out HB.out)); (case side2 => exact HC0_4.out); rintro e w15 ⟨rfl, hb⟩; replace BK227 := cB BK227 hb; replace BK228 := cB BK228 hb; replace HB := cH HB hb; (try clear hb)))
   go_meet
   case rel => exact ⟨_, (true), zS, H', zO, ⟨zK BK227⟩, ⟨zK BK228⟩, ⟨zH⟩⟩
 case rest =>
  clear HC3
  obtain ⟨kq, x21_2, rfl, HA, HJ2, BK227, BK228, HB⟩ := hcut
  cases kq with
  | zero => exact absurd HA.out (by simp [spec_CoefsOk.j0])
  | succ kj2 =>
   have H := HA.out
   clear HA
   simp only [spec_CoefsOk.j0] at H
   by_cases c16 : x21_2 = true
   ·subst c16
    replace H := iT H
    obtain rfl := Option.some.inj H
    go_wp2
    go_ret
    exact ⟨zR, zH⟩
   ·replace c16 := Bool.eq_false_iff.mpr c16
    subst c16
    replace H := iF H
    have H' := aM H
    clear H
    go_wp2
    go_loopg [5] kj2 (fun kq v5 w' => ∃ (x5_2 : Int), v5 = .int .i64 x5_2 ∧ Aside0 (spec_CoefsOk.l0 kq x5_2 a0_0 a0_1 a0_2 a0_3 l0_4 l1_0 = some r) ∧ Aside0 (kq ≤ kj2) ∧ Aside0 (w'.heap[gb227]? = some (.cells #[.int .i64 a0_0, .int .i64 a0_1, .int .i64 a0_2, .int .i64 a0_3, (.slice A0_4 l0_4.length c0_4)] 45 (0, 0))) ∧ Aside0 (w'.heap[gb228]? = some (.cells #[(.slice A1_0 l1_0.length c1_0)] 63 (0, 0))) ∧ Aside0 (Below w.heap.size w w'))
    case atStart => exact ⟨(0), zS, H', ⟨Nat.le_refl _⟩, ⟨zK BK227⟩, ⟨zK BK228⟩, ⟨zH⟩⟩
    case round =>
     clear H'
     try clear c16
     obtain ⟨x5_2, rfl, HA, HK2, BK227, BK228, HB⟩ := hrel
     cases gk with
     | zero => exact absurd HA.out (by simp [spec_CoefsOk.l0])
     | succ k2 =>
      have H := HA.out
      clear HA
      simp only [spec_CoefsOk.l0] at H
      by_cases c17 : x5_2 < (l1_0.length : Int)
      ·rw [if_pos c17] at H
       have c17b0 : decide (x5_2 < (l1_0.length : Int)) = true := decide_eq_true c17
       clear c17
       replace H := oB H
       obtain ⟨⟨t230, t231⟩, A180, H⟩ := H
       replace H : (if 0 ≤ x5_2 then (if ((rd_L4 l1_0 x5_2).length : Int) = (wrap64 (t230 * t231)) then (spec_CoefsOk.l1 k2 x5_2 t230 t231 0 a0_0 a0_1 a0_2 a0_3 l0_4 l1_0) else (some false)) else (none)) = some r := H
       have A18 := aM A180
       clear A180
       by_cases c19 : 0 ≤ x5_2
       ·rw [if_pos c19] at H
        have c19b0 : decide (0 ≤ x5_2) = true := decide_eq_true c19
        clear c19
        by_cases c20 : ((rd_L4 l1_0 x5_2).length : Int) = (wrap64 (t230 * t231))
        ·rw [if_pos c20] at H
         have c20b0 : (((rd_L4 l1_0 x5_2).length : Int) == (wrap64 (t230 * t231))) = true := beq_iff_eq.mpr c20
         have c20b1 : (((rd_L4 l1_0 x5_2).length : Int) != (wrap64 (t230 * t231))) = false := bne_eq_false_iff_eq.mpr c20
         clear c20
         have H' := aM H
         clear H
         have hnb21 := NB228_227.out
         have hnc21 := NB227_228.out
         have hcz22_0 := kk1 BK228
         have hfz22_0 := kg1 BK228
         obtain ⟨hcz23_0, hcz23_1, hcz23_2, hcz23_3, hcz23_4⟩ := kk5 BK227
         obtain ⟨hfz23_0, hfz23_1, hfz23_2, hfz23_3, hfz23_4⟩ := kg5 BK227
         go_wp2_with (first | (go_at_call 95; (with_reducible refine (spec_l04Blocks.calls k2 a0_0 a0_1 a0_2 a0_3 _ _ l0_4 x5_2 t230 t231 _ ?side1 ?side2 A18.out).mono ?_); (case side1 => exact zC (Kd.C_below HR0_4.out HB.out)); (case side2 => exact HC0_4.out); rintro e w24 ⟨rfl, hb⟩; replace BK227 := cB BK227 hb; replace BK228 := cB BK228 hb; replace HB := cH HB hb; (try clear hb); have hcz25_0 := kk1 BK228; have hfz25_0 := kg1 BK228; have p232 : 0 ≤ (x5_2 : Int) := zA; have q232 : x5_2 < (l1_0.length : Int) := zA; obtain ⟨ad232, A232_0, c232_0, e232, hx232_0, hl232_0, hi232_0⟩ := at_L4 HR1_0.out x5_2 p232 q232; cases e232; replace hx232_0 := hX HB hx232_0; have HR232_0 := aM hi232_0; have HC232_0 := aM hl232_0; clear hi232_0 hl232_0; replace p232 := eq_true p232; replace q232 := eq_true q232))
         go_loopg [8] k2 (fun kq v8 w' => ∃ (x8_3 : Int), v8 = .int .i64 x8_3 ∧ Aside0 (spec_CoefsOk.l1 kq x5_2 t230 t231 x8_3 a0_0 a0_1 a0_2 a0_3 l0_4 l1_0 = some r) ∧ Aside0 (kq ≤ k2) ∧ Aside0 (w'.heap[gb227]? = some (.cells #[.int .i64 a0_0, .int .i64 a0_1, .int .i64 a0_2, .int .i64 a0_3, (.slice A0_4 l0_4.length c0_4)] 45 (0, 0))) ∧ Aside0 (w'.heap[gb228]? = some (.cells #[(.slice (some ad232) l1_0.length c1_0)] 63 (0, 0))) ∧ Aside0 (Below w.heap.size w w'))
         case atStart => exact ⟨(0), zS, H', ⟨Nat.le_refl _⟩, ⟨zK BK227⟩, ⟨zK BK228⟩, ⟨zH⟩⟩
         case round =>
          clear H'
          (try clear c17b0); (try clear c19b0); (try clear c20b0); (try clear c20b1); (try clear hcz22_0); (try clear hcz23_0); (try clear hcz23_1); (try clear hcz23_2); (try clear hcz23_3); (try clear hcz23_4); (try clear hcz25_0); (try clear hfz22_0); (try clear hfz23_0); (try clear hfz23_1); (try clear hfz23_2); (try clear hfz23_3); (try clear hfz23_4); (try clear hfz25_0); (try clear hx232_0); (try clear p232); (try clear q232)
          obtain ⟨x8_3, rfl, HA, HK3, BK227, BK228, HB⟩ := hrel
          cases gk with
          | zero => exact absurd HA.out (by simp [spec_CoefsOk.l1])
          | succ k3 =>
           have H := HA.out
           clear HA
           simp only [spec_CoefsOk.l1] at H
           by_cases c26 : x8_3 < (wrap64 (t230 * t231))
           ·rw [if_pos c26] at H
            have c26b0 : decide (x8_3 < (wrap64 (t230 * t231))) = true := decide_eq_true c26
            clear c26
            by_cases c27 : 0 ≤ x5_2
            ·rw [if_pos c27] at H
             have c27b0 : decide (0 ≤ x5_2) = true := decide_eq_true c27
             clear c27
             by_cases c28 : x5_2 < (l1_0.length : Int)
             ·rw [if_pos c28] at H
              have c28b0 : decide (x5_2 < (l1_0.length : Int)) = true := decide_eq_true c28
              clear c28
              by_cases c29 : 0 ≤ x8_3
              ·rw [if_pos c29] at H
               have c29b0 : decide (0 ≤ x8_3) = true := decide_eq_true c29
               clear c29
               by_cases c30 : x8_3 < ((rd_L4 l1_0 x5_2).length : Int)
               ·rw [if_pos c30] at H
                have c30b0 : decide (x8_3 < ((rd_L4 l1_0 x5_2).length : Int)) = true := decide_eq_true c30
                clear c30
                obtain ⟨t235, A31, H⟩ := oH H
                by_cases c32 : t235 = true
                ·subst c32
                 replace H := iT H
                 by_cases c33 : t230 = 0
                 ·rw [if_pos c33] at H
                  exact absurd H (by simp)
                 ·rw [if_neg c33] at H
                  have c33b0 : (t230 == 0) = false := beq_eq_false_iff_ne.mpr c33
                  have c33b1 : (t230 != 0) = true := bne_iff_ne.mpr c33
                  obtain ⟨t236, A34, H⟩ := oH H
                  by_cases c35 : t236 = true
                  ·subst c35
                   replace H := iT H
                   obtain ⟨t237, A36, H⟩ := oH H
                   by_cases c37 : t237 = true
                   ·subst c37
                    replace H := iT H
                    have H' := aM H
                    clear H
                    have hnb38 := NB228_227.out
                    have hnc38 := NB227_228.out
                    have hcz39_0 := kk1 BK228
                    have hfz39_0 := kg1 BK228
                    have p233 : 0 ≤ (x5_2 : Int) := zA
                    have q233 : x5_2 < (l1_0.length : Int) := zA
                    obtain ⟨ad233, A233_0, c233_0, e233, hx233_0, hl233_0, hi233_0⟩ := at_L4 HR1_0.out x5_2 p233 q233
                    obtain rfl : ad232 = ad233 := (by injection e233)
                    replace hx233_0 := hX HB hx233_0
                    have HR233_0 := aM hi233_0
                    have HC233_0 := aM hl233_0
                    clear hi233_0 hl233_0
                    replace p233 := eq_true p233
                    replace q233 := eq_true q233
                    have p234 : 0 ≤ (x8_3 : Int) := zA
                    have q234 : x8_3 < ((rd_L4 l1_0 x5_2).length : Int) := zA
                    obtain ⟨ad234, A234_0, c234_0, e234, hx234_0, hl234_0, hi234_0⟩ := at_L3 HR233_0.out x8_3 p234 q234
                    cases e234
                    replace hx234_0 := hX HB hx234_0
                    have HR234_0 := aM hi234_0
                    have HC234_0 := aM hl234_0
                    clear hi234_0 hl234_0
                    replace p234 := eq_true p234
                    replace q234 := eq_true q234
                    try go_wp2
                    have n0_ := aM (kD BK227.out)
                    have n1_ := aM (kD BK228.out)
                    have n2_ := aM (b1 HB.out)
                    clear BK227
                    clear BK228
                    clear HB
                    have BK227 := n0_
                    have BK228 := n1_
                    have HB := n2_
                    clear n0_ n1_ n2_
                    refine start_ (n := 20) (S := fun w' => w'.cell? ⟨gb227, 0, none⟩ = some (.int .i64 a0_0) ∧ w'.cell? ⟨gb227, 1, none⟩ = some (.int .i64 a0_1) ∧ w'.cell? ⟨gb227, 2, none⟩ = some (.int .i64 a0_2) ∧ w'.cell? ⟨gb227, 3, none⟩ = some (.int .i64 a0_3) ∧ w'.cell? ⟨gb227, 4, none⟩ = some (.slice A0_4 l0_4.length c0_4)) (ds := []) #[false, false, false, false, false, false, false, false, false, false, false, false, false, false, false, false, false, false, false, false] (by kernel_rfl) rfl rfl ⟨(kC BK227.out 0).trans rfl, (kC BK227.out 1).trans rfl, (kC BK227.out 2).trans rfl, (kC BK227.out 3).trans rfl, (kC BK227.out 4).trans rfl⟩ (fun hHeld => ?_); refine with_tabW spec_CoefsOk.tab13 spec_CoefsOk.bits13 (fun HT_ HW_ => ?_)
                    generalize wr.drew = w40 at BK227 BK228 HB hHeld ⊢
                    refine zP 0 (some 60) HT_ ?_
                    refine zOn 1 (some 61) HT_ (fun K hK => ?_)
                    refine zGo Try.func70 #[.slice A234_0 (rd_L3 (rd_L4 l1_0 x5_2) x8_3).length c234_0] ?_
                    with_reducible refine (spec_l11Level.calls k3 _ _ (rd_L3 (rd_L4 l1_0 x5_2) x8_3) true _ ?side1 ?side2 A31.out).mono ?_
                    (case side1 => exact zC (Kd.C_below HR234_0.out HB.out))
                    (case side2 => exact HC234_0.out)
                    rintro e w' ⟨rfl, ⟨nd, rfl⟩⟩
                    refine ⟨_, rfl, ?_⟩
                    refine hK.out _ _ ⟨(kC BK227.out 0).trans rfl, (kC BK227.out 1).trans rfl, (kC BK227.out 2).trans rfl, (kC BK227.out 3).trans rfl, (kC BK227.out 4).trans rfl⟩ (fun hHeld => ?_)
                    clear hK K
                    refine zNo (some 61) ?_
                    refine zP 2 (some 62) HT_ ?_
                    refine zP 3 (some 63) HT_ ?_
                    refine zP 5 (some 65) HT_ ?_
                    refine zP 6 (some 66) HT_ ?_
                    refine zP 7 (some 67) HT_ ?_
                    refine zP 8 (some 68) HT_ ?_
                    refine zP 9 (some 69) HT_ ?_
                    refine zP 10 (some 70) HT_ ?_
                    refine zP 11 (some 71) HT_ ?_
                    refine zP 12 (some 72) HT_ ?_
                    refine zT 4 (some 64) HT_ HW_ hHeld (hy := Or.inl ⟨by rfl, by rintro w' ⟨s0, s1, s2, s3, s4⟩; go_simp; with_reducible rfl⟩) (h := ?_)
                    refine zOn 13 (some 73) HT_ (fun K hK => ?_)
                    refine zGo Try.func106 #[.agg #[.int .i64 a0_0, .int .i64 a0_1, .int .i64 a0_2, .int .i64 a0_3, .slice A0_4 l0_4.length c0_4], .agg #[.int .i64 x5_2, .int .i64 (wrap64 (Int.tdiv x8_3 t230)), .int .i64 (Int.tmod x8_3 t230)]] ?_
                    with_reducible refine (spec_l11Hidden.calls k3 a0_0 a0_1 a0_2 a0_3 _ _ l0_4 x5_2 (wrap64 (Int.tdiv x8_3 t230)) (Int.tmod x8_3 t230) true _ ?side1 ?side2 A34.out).mono ?_
                    (case side1 => exact zC (Kd.C_below HR0_4.out zH))
                    (case side2 => exact HC0_4.out)
                    rintro e w41 ⟨rfl, hb⟩
                    refine ⟨_, rfl, ?_⟩
                    have n0_ := cB BK227 hb
                    have n1_ := cB BK228 hb
                    have n2_ := cH HB hb
                    clear BK227
                    clear BK228
                    clear HB
                    have BK227 := n0_
                    have BK228 := n1_
                    have HB := n2_
                    clear n0_ n1_ n2_
                    (try clear hb)
                    (try clear hb2)
                    (try clear hk)
                    (try clear hi)
                    refine hK.out _ _ ⟨(kC BK227.out 0).trans rfl, (kC BK227.out 1).trans rfl, (kC BK227.out 2).trans rfl, (kC BK227.out 3).trans rfl, (kC BK227.out 4).trans rfl⟩ (fun hHeld => ?_)
                    clear hK K
                    refine zNo (some 73) ?_
                    refine zP 14 (some 74) HT_ ?_
                    refine zP 15 (some 75) HT_ ?_
                    refine zOn 16 (some 76) HT_ (fun K hK => ?_)
                    refine zGo Try.func107 #[.slice A234_0 (rd_L3 (rd_L4 l1_0 x5_2) x8_3).length c234_0] ?_
                    with_reducible refine (spec_l11Zero.calls k3 _ _ (rd_L3 (rd_L4 l1_0 x5_2) x8_3) true _ ?side1 ?side2 A36.out).mono ?_
                    (case side1 => exact zC (Kd.C_below HR234_0.out HB.out))
                    (case side2 => exact HC234_0.out)
                    rintro e w' ⟨rfl, ⟨nd, rfl⟩⟩
                    refine ⟨_, rfl, ?_⟩
                    refine hK.out _ _ ⟨(kC BK227.out 0).trans rfl, (kC BK227.out 1).trans rfl, (kC BK227.out 2).trans rfl, (kC BK227.out 3).trans rfl, (kC BK227.out 4).trans rfl⟩ (fun hHeld => ?_)
                    clear hK K
                    refine zNo (some 76) ?_
                    refine zP 17 (some 77) HT_ ?_
                    refine zP 18 (some 78) HT_ ?_
                    refine zP 19 (some 79) HT_ ?_
                    refine done_ (done_of HT_.out (by kernel_rfl)) ?_
                    try go_wp2
                    go_roundg k3
                    case measure => have := HJ2.out; have := HK2.out; have := HK3.out; omega
                    case rel => exact ⟨(wrap64 (x8_3 + 1)), zS, H', ⟨by have := HJ2.out; have := HK2.out; have := HK3.out; omega⟩, ⟨zK BK227⟩, ⟨zK BK228⟩, ⟨zH⟩⟩
                   ·replace c37 := Bool.eq_false_iff.mpr c37
                    subst c37
                    replace H := iF H
                    obtain rfl := Option.some.inj H
                    have hnb42 := NB228_227.out
                    have hnc42 := NB227_228.out
                    have hcz43_0 := kk1 BK228
                    have hfz43_0 := kg1 BK228
                    have p233 : 0 ≤ (x5_2 : Int) := zA
                    have q233 : x5_2 < (l1_0.length : Int) := zA
                    obtain ⟨ad233, A233_0, c233_0, e233, hx233_0, hl233_0, hi233_0⟩ := at_L4 HR1_0.out x5_2 p233 q233
                    obtain rfl : ad232 = ad233 := (by injection e233)
                    replace hx233_0 := hX HB hx233_0
                    have HR233_0 := aM hi233_0
                    have HC233_0 := aM hl233_0
                    clear hi233_0 hl233_0
                    replace p233 := eq_true p233
                    replace q233 := eq_true q233
                    have p234 : 0 ≤ (x8_3 : Int) := zA
                    have q234 : x8_3 < ((rd_L4 l1_0 x5_2).length : Int) := zA
                    obtain ⟨ad234, A234_0, c234_0, e234, hx234_0, hl234_0, hi234_0⟩ := at_L3 HR233_0.out x8_3 p234 q234
                    cases e234
                    replace hx234_0 := hX HB hx234_0
                    have HR234_0 := aM hi234_0
                    have HC234_0 := aM hl234_0
                    clear hi234_0 hl234_0
                    replace p234 := eq_true p234
                    replace q234 := eq_true q234
                    try go_wp2
                    have n0_ := aM (kD BK227.out)
                    have n1_ := aM (kD BK228.out)
                    have n2_ := aM (b1 HB.out)
                    clear BK227
                    clear BK228
                    clear HB
                    have BK227 := n0_
                    have BK228 := n1_
                    have HB := n2_
                    clear n0_ n1_ n2_
                    refine start_ (n := 20) (S := fun w' => w'.cell? ⟨gb227, 0, none⟩ = some (.int .i64 a0_0) ∧ w'.cell? ⟨gb227, 1, none⟩ = some (.int .i64 a0_1) ∧ w'.cell? ⟨gb227, 2, none⟩ = some (.int .i64 a0_2) ∧ w'.cell? ⟨gb227, 3, none⟩ = some (.int .i64 a0_3) ∧ w'.cell? ⟨gb227, 4, none⟩ = some (.slice A0_4 l0_4.length c0_4)) (ds := []) #[false, false, false, false, false, false, false, false, false, false, false, false, false, false, false, false, false, false, false, false] (by kernel_rfl) rfl rfl ⟨(kC BK227.out 0).trans rfl, (kC BK227.out 1).trans rfl, (kC BK227.out 2).trans rfl, (kC BK227.out 3).trans rfl, (kC BK227.out 4).trans rfl⟩ (fun hHeld => ?_); refine with_tabW spec_CoefsOk.tab13 spec_CoefsOk.bits13 (fun HT_ HW_ => ?_)
                    generalize wr.drew = w44 at BK227 BK228 HB hHeld ⊢
                    refine zP 0 (some 60) HT_ ?_
                    refine zOn 1 (some 61) HT_ (fun K hK => ?_)
                    refine zGo Try.func70 #[.slice A234_0 (rd_L3 (rd_L4 l1_0 x5_2) x8_3).length c234_0] ?_
                    with_reducible refine (spec_l11Level.calls k3 _ _ (rd_L3 (rd_L4 l1_0 x5_2) x8_3) true _ ?side1 ?side2 A31.out).mono ?_
                    (case side1 => exact zC (Kd.C_below HR234_0.out HB.out))
                    (case side2 => exact HC234_0.out)
                    rintro e w' ⟨rfl, ⟨nd, rfl⟩⟩
                    refine ⟨_, rfl, ?_⟩
                    refine hK.out _ _ ⟨(kC BK227.out 0).trans rfl, (kC BK227.out 1).trans rfl, (kC BK227.out 2).trans rfl, (kC BK227.out 3).trans rfl, (kC BK227.out 4).trans rfl⟩ (fun hHeld => ?_)
                    clear hK K
                    refine zNo (some 61) ?_
                    refine zP 2 (some 62) HT_ ?_
                    refine zP 3 (some 63) HT_ ?_
                    refine zP 5 (some 65) HT_ ?_
                    refine zP 6 (some 66) HT_ ?_
                    refine zP 7 (some 67) HT_ ?_
                    refine zP 8 (some 68) HT_ ?_
                    refine zP 9 (some 69) HT_ ?_
                    refine zP 10 (some 70) HT_ ?_
                    refine zP 11 (some 71) HT_ ?_
                    refine zP 12 (some 72) HT_ ?_
                    refine zT 4 (some 64) HT_ HW_ hHeld (hy := Or.inl ⟨by rfl, by rintro w' ⟨s0, s1, s2, s3, s4⟩; go_simp; with_reducible rfl⟩) (h := ?_)
                    refine zOn 13 (some 73) HT_ (fun K hK => ?_)
                    refine zGo Try.func106 #[.agg #[.int .i64 a0_0, .int .i64 a0_1, .int .i64 a0_2, .int .i64 a0_3, .slice A0_4 l0_4.length c0_4], .agg #[.int .i64 x5_2, .int .i64 (wrap64 (Int.tdiv x8_3 t230)), .int .i64 (Int.tmod x8_3 t230)]] ?_
                    with_reducible refine (spec_l11Hidden.calls k3 a0_0 a0_1 a0_2 a0_3 _ _ l0_4 x5_2 (wrap64 (Int.tdiv x8_3 t230)) (Int.tmod x8_3 t230) true _ ?side1 ?side2 A34.out).mono ?_
                    (case side1 => exact zC (Kd.C_below HR0_4.out zH))
                    (case side2 => exact HC0_4.out)
                    rintro e w45 ⟨rfl, hb⟩
                    refine ⟨_, rfl, ?_⟩
                    have n0_ := cB BK227 hb
                    have n1_ := cB BK228 hb
                    have n2_ := cH HB hb
                    clear BK227
                    clear BK228
                    clear HB
                    have BK227 := n0_
                    have BK228 := n1_
                    have HB := n2_
                    clear n0_ n1_ n2_
                    (try clear hb)
                    (try clear hb2)
                    (try clear hk)
                    (try clear hi)
                    refine hK.out _ _ ⟨(kC BK227.out 0).trans rfl, (kC BK227.out 1).trans rfl, (kC BK227.out 2).trans rfl, (kC BK227.out 3).trans rfl, (kC BK227.out 4).trans rfl⟩ (fun hHeld => ?_)
                    clear hK K
                    refine zNo (some 73) ?_
                    refine zP 14 (some 74) HT_ ?_
                    refine zP 15 (some 75) HT_ ?_
                    refine zOn 16 (some 76) HT_ (fun K hK => ?_)
                    refine zGo Try.func107 #[.slice A234_0 (rd_L3 (rd_L4 l1_0 x5_2) x8_3).length c234_0] ?_
                    with_reducible refine (spec_l11Zero.calls k3 _ _ (rd_L3 (rd_L4 l1_0 x5_2) x8_3) false _ ?side1 ?side2 A36.out).mono ?_
                    (case side1 => exact zC (Kd.C_below HR234_0.out HB.out))
                    (case side2 => exact HC234_0.out)
                    rintro e w' ⟨rfl, ⟨nd, rfl⟩⟩
                    refine ⟨_, rfl, ?_⟩
                    refine hK.out _ _ ⟨(kC BK227.out 0).trans rfl, (kC BK227.out 1).trans rfl, (kC BK227.out 2).trans rfl, (kC BK227.out 3).trans rfl, (kC BK227.out 4).trans rfl⟩ (fun hHeld => ?_)
                    clear hK K
                    refine zNo (some 76) ?_
                    refine zP 17 (some 77) HT_ ?_
                    refine zP 18 (some 78) HT_ ?_
                    refine zP 19 (some 79) HT_ ?_
                    refine done_ (done_of HT_.out (by kernel_rfl)) ?_
                    try go_wp2
                    go_ret
                    exact ⟨zR, zH⟩
                  ·replace c35 := Bool.eq_false_iff.mpr c35
                   subst c35
                   replace H := iF H
                   have H' := aM H
                   clear H
                   have hnb46 := NB228_227.out
                   have hnc46 := NB227_228.out
                   have hcz47_0 := kk1 BK228
                   have hfz47_0 := kg1 BK228
                   have p233 : 0 ≤ (x5_2 : Int) := zA
                   have q233 : x5_2 < (l1_0.length : Int) := zA
                   obtain ⟨ad233, A233_0, c233_0, e233, hx233_0, hl233_0, hi233_0⟩ := at_L4 HR1_0.out x5_2 p233 q233
                   obtain rfl : ad232 = ad233 := (by injection e233)
                   replace hx233_0 := hX HB hx233_0
                   have HR233_0 := aM hi233_0
                   have HC233_0 := aM hl233_0
                   clear hi233_0 hl233_0
                   replace p233 := eq_true p233
                   replace q233 := eq_true q233
                   have p234 : 0 ≤ (x8_3 : Int) := zA
                   have q234 : x8_3 < ((rd_L4 l1_0 x5_2).length : Int) := zA
                   obtain ⟨ad234, A234_0, c234_0, e234, hx234_0, hl234_0, hi234_0⟩ := at_L3 HR233_0.out x8_3 p234 q234
                   cases e234
                   replace hx234_0 := hX HB hx234_0
                   have HR234_0 := aM hi234_0
                   have HC234_0 := aM hl234_0
                   clear hi234_0 hl234_0
                   replace p234 := eq_true p234
                   replace q234 := eq_true q234
                   try go_wp2
                   have n0_ := aM (kD BK227.out)
                   have n1_ := aM (kD BK228.out)
                   have n2_ := aM (b1 HB.out)
                   clear BK227
                   clear BK228
                   clear HB
                   have BK227 := n0_
                   have BK228 := n1_
                   have HB := n2_
                   clear n0_ n1_ n2_
                   refine start_ (n := 20) (S := fun w' => w'.cell? ⟨gb227, 0, none⟩ = some (.int .i64 a0_0) ∧ w'.cell? ⟨gb227, 1, none⟩ = some (.int .i64 a0_1) ∧ w'.cell? ⟨gb227, 2, none⟩ = some (.int .i64 a0_2) ∧ w'.cell? ⟨gb227, 3, none⟩ = some (.int .i64 a0_3) ∧ w'.cell? ⟨gb227, 4, none⟩ = some (.slice A0_4 l0_4.length c0_4)) (ds := []) #[false, false, false, false, false, false, false, false, false, false, false, false, false, false, false, false, false, false, false, false] (by kernel_rfl) rfl rfl ⟨(kC BK227.out 0).trans rfl, (kC BK227.out 1).trans rfl, (kC BK227.out 2).trans rfl, (kC BK227.out 3).trans rfl, (kC BK227.out 4).trans rfl⟩ (fun hHeld => ?_); refine with_tabW spec_CoefsOk.tab13 spec_CoefsOk.bits13 (fun HT_ HW_ => ?_)
                   generalize wr.drew = w48 at BK227 BK228 HB hHeld ⊢
                   refine zP 0 (some 60) HT_ ?_
                   refine zOn 1 (some 61) HT_ (fun K hK => ?_)
                   refine zGo Try.func70 #[.slice A234_0 (rd_L3 (rd_L4 l1_0 x5_2) x8_3).length c234_0] ?_
                   with_reducible refine (spec_l11Level.calls k3 _ _ (rd_L3 (rd_L4 l1_0 x5_2) x8_3) true _ ?side1 ?side2 A31.out).mono ?_
                   (case side1 => exact zC (Kd.C_below HR234_0.out HB.out))
                   (case side2 => exact HC234_0.out)
                   rintro e w' ⟨rfl, ⟨nd, rfl⟩⟩
                   refine ⟨_, rfl, ?_⟩
                   refine hK.out _ _ ⟨(kC BK227.out 0).trans rfl, (kC BK227.out 1).trans rfl, (kC BK227.out 2).trans rfl, (kC BK227.out 3).trans rfl, (kC BK227.out 4).trans rfl⟩ (fun hHeld => ?_)
                   clear hK K
                   refine zNo (some 61) ?_
                   refine zP 2 (some 62) HT_ ?_
                   refine zP 3 (some 63) HT_ ?_
                   refine zP 5 (some 65) HT_ ?_
                   refine zP 6 (some 66) HT_ ?_
                   refine zP 7 (some 67) HT_ ?_
                   refine zP 8 (some 68) HT_ ?_
                   refine zP 9 (some 69) HT_ ?_
                   refine zP 10 (some 70) HT_ ?_
                   refine zP 11 (some 71) HT_ ?_
                   refine zP 12 (some 72) HT_ ?_
                   refine zT 4 (some 64) HT_ HW_ hHeld (hy := Or.inl ⟨by rfl, by rintro w' ⟨s0, s1, s2, s3, s4⟩; go_simp; with_reducible rfl⟩) (h := ?_)
                   refine zOn 13 (some 73) HT_ (fun K hK => ?_)
                   refine zGo Try.func106 #[.agg #[.int .i64 a0_0, .int .i64 a0_1, .int .i64 a0_2, .int .i64 a0_3, .slice A0_4 l0_4.length c0_4], .agg #[.int .i64 x5_2, .int .i64 (wrap64 (Int.tdiv x8_3 t230)), .int .i64 (Int.tmod x8_3 t230)]] ?_
                   with_reducible refine (spec_l11Hidden.calls k3 a0_0 a0_1 a0_2 a0_3 _ _ l0_4 x5_2 (wrap64 (Int.tdiv x8_3 t230)) (Int.tmod x8_3 t230) false _ ?side1 ?side2 A34.out).mono ?_
                   (case side1 => exact zC (Kd.C_below HR0_4.out zH))
                   (case side2 => exact HC0_4.out)
                   rintro e w49 ⟨rfl, hb⟩
                   refine ⟨_, rfl, ?_⟩
                   have n0_ := cB BK227 hb
                   have n1_ := cB BK228 hb
                   have n2_ := cH HB hb
                   clear BK227
                   clear BK228
                   clear HB
                   have BK227 := n0_
                   have BK228 := n1_
                   have HB := n2_
                   clear n0_ n1_ n2_
                   (try clear hb)
                   (try clear hb2)
                   (try clear hk)
                   (try clear hi)
                   refine hK.out _ _ ⟨(kC BK227.out 0).trans rfl, (kC BK227.out 1).trans rfl, (kC BK227.out 2).trans rfl, (kC BK227.out 3).trans rfl, (kC BK227.out 4).trans rfl⟩ (fun hHeld => ?_)
                   clear hK K
                   refine zNo (some 73) ?_
                   refine zP 14 (some 74) HT_ ?_
                   refine zU 15 (some 75) HT_ ?_
                   refine zU 16 (some 76) HT_ ?_
                   refine zU 17 (some 77) HT_ ?_
                   refine zP 18 (some 78) HT_ ?_
                   refine zP 19 (some 79) HT_ ?_
                   refine done_ (done_of HT_.out (by kernel_rfl)) ?_
                   try go_wp2
                   go_roundg k3
                   case measure => have := HJ2.out; have := HK2.out; have := HK3.out; omega
                   case rel => exact ⟨(wrap64 (x8_3 + 1)), zS, H', ⟨by have := HJ2.out; have := HK2.out; have := HK3.out; omega⟩, ⟨zK BK227⟩, ⟨zK BK228⟩, ⟨zH⟩⟩
                ·replace c32 := Bool.eq_false_iff.mpr c32
                 subst c32
                 replace H := iF H
                 obtain rfl := Option.some.inj H
                 have hnb50 := NB228_227.out
                 have hnc50 := NB227_228.out
                 have hcz51_0 := kk1 BK228
                 have hfz51_0 := kg1 BK228
                 have p233 : 0 ≤ (x5_2 : Int) := zA
                 have q233 : x5_2 < (l1_0.length : Int) := zA
                 obtain ⟨ad233, A233_0, c233_0, e233, hx233_0, hl233_0, hi233_0⟩ := at_L4 HR1_0.out x5_2 p233 q233
                 obtain rfl : ad232 = ad233 := (by injection e233)
                 replace hx233_0 := hX HB hx233_0
                 have HR233_0 := aM hi233_0
                 have HC233_0 := aM hl233_0
                 clear hi233_0 hl233_0
                 replace p233 := eq_true p233
                 replace q233 := eq_true q233
                 have p234 : 0 ≤ (x8_3 : Int) := zA
                 have q234 : x8_3 < ((rd_L4 l1_0 x5_2).length : Int) := zA
                 obtain ⟨ad234, A234_0, c234_0, e234, hx234_0, hl234_0, hi234_0⟩ := at_L3 HR233_0.out x8_3 p234 q234
                 cases e234
                 replace hx234_0 := hX HB hx234_0
                 have HR234_0 := aM hi234_0
                 have HC234_0 := aM hl234_0
                 clear hi234_0 hl234_0
                 replace p234 := eq_true p234
                 replace q234 := eq_true q234
                 try go_wp2
                 have n0_ := aM (kD BK227.out)
                 have n1_ := aM (kD BK228.out)
                 have n2_ := aM (b1 HB.out)
                 clear BK227
                 clear BK228
                 clear HB
                 have BK227 := n0_
                 have BK228 := n1_
                 have HB := n2_
                 clear n0_ n1_ n2_
                 refine start_ (n := 20) (S := fun w' => True) (ds := []) #[false, false, false, false, false, false, false, false, false, false, false, false, false, false, false, false, false, false, false, false] (by kernel_rfl) rfl rfl trivial (fun hHeld => ?_); refine with_tabW spec_CoefsOk.tab13 spec_CoefsOk.bits13 (fun HT_ HW_ => ?_)
                 generalize wr.drew = w52 at BK227 BK228 HB hHeld ⊢
                 refine zP 0 (some 60) HT_ ?_
                 refine zOn 1 (some 61) HT_ (fun K hK => ?_)
                 refine zGo Try.func70 #[.slice A234_0 (rd_L3 (rd_L4 l1_0 x5_2) x8_3).length c234_0] ?_
                 with_reducible refine (spec_l11Level.calls k3 _ _ (rd_L3 (rd_L4 l1_0 x5_2) x8_3) false _ ?side1 ?side2 A31.out).mono ?_
                 (case side1 => exact zC (Kd.C_below HR234_0.out HB.out))
                 (case side2 => exact HC234_0.out)
                 rintro e w' ⟨rfl, ⟨nd, rfl⟩⟩
                 refine ⟨_, rfl, ?_⟩
                 refine hK.out _ _ trivial (fun hHeld => ?_)
                 clear hK K
                 refine zNo (some 61) ?_
                 refine zP 2 (some 62) HT_ ?_
                 refine zP 3 (some 63) HT_ ?_
                 refine zU 4 (some 64) HT_ ?_
                 refine zU 5 (some 65) HT_ ?_
                 refine zU 6 (some 66) HT_ ?_
                 refine zU 7 (some 67) HT_ ?_
                 refine zU 8 (some 68) HT_ ?_
                 refine zU 9 (some 69) HT_ ?_
                 refine zU 10 (some 70) HT_ ?_
                 refine zU 11 (some 71) HT_ ?_
                 refine zU 12 (some 72) HT_ ?_
                 refine zU 13 (some 73) HT_ ?_
                 refine zU 14 (some 74) HT_ ?_
                 refine zU 15 (some 75) HT_ ?_
                 refine zU 16 (some 76) HT_ ?_
                 refine zU 17 (some 77) HT_ ?_
                 refine zU 18 (some 78) HT_ ?_
                 refine zP 19 (some 79) HT_ ?_
                 refine done_ (done_of HT_.out (by kernel_rfl)) ?_
                 try go_wp2
                 go_ret
                 exact ⟨zR, zH⟩
               ·rw [if_neg c30] at H
                exact absurd H (by simp)
              ·rw [if_neg c29] at H
               exact absurd H (by simp)
             ·rw [if_neg c28] at H
              exact absurd H (by simp)
            ·rw [if_neg c27] at H
             exact absurd H (by simp)
           ·rw [if_neg c26] at H
            have c26b0 : decide (x8_3 < (wrap64 (t230 * t231))) = false := decide_eq_false c26
            clear c26
            have H' := aM H
            clear H
            go_wp2
            go_roundg k3
            case measure => have := HJ2.out; have := HK2.out; have := HK3.out; omega
            case rel => exact ⟨(wrap64 (x5_2 + 1)), zS, H', ⟨by have := HJ2.out; have := HK2.out; have := HK3.out; omega⟩, ⟨zK BK227⟩, ⟨zK BK228⟩, ⟨zH⟩⟩
        ·rw [if_neg c20] at H
         have c20b0 : (((rd_L4 l1_0 x5_2).length : Int) == (wrap64 (t230 * t231))) = false := beq_eq_false_iff_ne.mpr c20
         have c20b1 : (((rd_L4 l1_0 x5_2).length : Int) != (wrap64 (t230 * t231))) = true := bne_iff_ne.mpr c20
         obtain rfl := Option.some.inj H
         have hnb53 := NB228_227.out
         have hnc53 := NB227_228.out
         have hcz54_0 := kk1 BK228
         have hfz54_0 := kg1 BK228
         obtain ⟨hcz55_0, hcz55_1, hcz55_2, hcz55_3, hcz55_4⟩ := kk5 BK227
         obtain ⟨hfz55_0, hfz55_1, hfz55_2, hfz55_3, hfz55_4⟩ := kg5 BK227
         go_wp2_with (first | (go_at_call 95; (with_reducible refine (spec_l04Blocks.calls k2 a0_0 a0_1 a0_2 a0_3 _ _ l0_4 x5_2 t230 t231 _ ?side1 ?side2 A18.out).mono ?_); (case side1 => exact zC (Kd.C_below HR0_4.out HB.out)); (case side2 => exact HC0_4.out); rintro e w56 ⟨rfl, hb⟩; replace BK227 := cB BK227 hb; replace BK228 := cB BK228 hb; replace HB := cH HB hb; (try clear hb); have hcz57_0 := kk1 BK228; have hfz57_0 := kg1 BK228; have p232 : 0 ≤ (x5_2 : Int) := zA; have q232 : x5_2 < (l1_0.length : Int) := zA; obtain ⟨ad232, A232_0, c232_0, e232, hx232_0, hl232_0, hi232_0⟩ := at_L4 HR1_0.out x5_2 p232 q232; cases e232; replace hx232_0 := hX HB hx232_0; have HR232_0 := aM hi232_0; have HC232_0 := aM hl232_0; clear hi232_0 hl232_0; replace p232 := eq_true p232; replace q232 := eq_true q232))
         go_ret
         exact ⟨zR, zH⟩
       ·rw [if_neg c19] at H
        exact absurd H (by simp)
      ·rw [if_neg c17] at H
       have c17b0 : decide (x5_2 < (l1_0.length : Int)) = false := decide_eq_false c17
       clear c17
       obtain rfl := Option.some.inj H
       have hnb58 := NB228_227.out
       have hnc58 := NB227_228.out
       have hcz59_0 := kk1 BK228
       have hfz59_0 := kg1 BK228
       go_wp2
       go_ret
       exact ⟨zR, zH⟩

end Go.Proofs.Ythajjjpblkhmmaa.CB
