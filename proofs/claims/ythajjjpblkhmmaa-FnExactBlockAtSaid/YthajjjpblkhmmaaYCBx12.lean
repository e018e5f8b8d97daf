/- Functions that a law of this seat reaches: written by a program of this session (wip/xprint.py), and by hand. -/
import Derived.Test.YthajjjpblkhmmaaYMac
import Derived.Test.YthajjjpblkhmmaaYCBx0
import Derived.Test.YthajjjpblkhmmaaYCBx9
import Derived.Test.YthajjjpblkhmmaaYCBx10
import Derived.Test.YthajjjpblkhmmaaYCBx11
namespace Go.Proofs.Ythajjjpblkhmmaa.CB
open Go.RowKit Go.Proofs.Ythajjjpblkhmmaa.B Go.Proofs.YthajjjpblkhmmaaW.PrintWords Go.Proofs.YthajjjpblkhmmaaW.PrintLast Go.Proofs.YthajjjpblkhmmaaW.PrintMore
attribute [local go_sem] max2_int min2_int max_two min_two max_three min_three max_four min_four   -- for this text's walks alone
set_option linter.unusedVariables false
set_option linter.unusedSimpArgs false

/-! ### impl_CoefsOk: function 57 -/
mutual
def impl_CoefsOk.j0 : Nat → Bool → Int → Int → Int → Int → List (S42) → List (List (List Int)) → Option (Bool)
  | 0, _, _, _, _, _, _, _ => none
  | k + 1, x22, x320000, x320001, x320002, x320003, x320004, x321000 => if x22 = true then (some false) else (impl_CoefsOk.l0 k x321000 (x321000.length : Int) 0 x320000 x320001 x320002 x320003 x320004)
def impl_CoefsOk.l0 : Nat → List (List (List Int)) → Int → Int → Int → Int → Int → Int → List (S42) → Option (Bool)
  | 0, _, _, _, _, _, _, _, _ => none
  | k + 1, x24, x25, x26, x320000, x320001, x320002, x320003, x320004 => if x26 < x25 then (if 0 ≤ x26 then (if x26 < (x24.length : Int) then ((impl_Frame_blocks.f k x320000 x320001 x320002 x320003 x320004 x26).bind fun bt323 => (if ((rd_L4 x24 x26).length : Int) = (wrap64 (bt323.1 * bt323.2)) then (impl_CoefsOk.l1 k x26 bt323.1 x24 x25 x26 (rd_L4 x24 x26) ((rd_L4 x24 x26).length : Int) 0 x320000 x320001 x320002 x320003 x320004) else (some false))) else (none)) else (none)) else (some true)
def impl_CoefsOk.l1 : Nat → Int → Int → List (List (List Int)) → Int → Int → List (List Int) → Int → Int → Int → Int → Int → Int → List (S42) → Option (Bool)
  | 0, _, _, _, _, _, _, _, _, _, _, _, _, _ => none
  | k + 1, x5, x7, x24, x25, x26, x43, x44, x45, x320000, x320001, x320002, x320003, x320004 => if x45 < x44 then (if 0 ≤ x45 then (if x45 < (x43.length : Int) then ((impl_isLevels.f k (rd_L3 x43 x45)).bind fun t326 => (if t326 = true then (if x7 = 0 then (none) else ((impl_Frame_isHidden.f k x320000 x320001 x320002 x320003 x320004 x5 (wrap64 (Int.tdiv x45 x7)) (Int.tmod x45 x7)).bind fun t327 => (if t327 = true then ((impl_allWithin.f k (rd_L3 x43 x45) 0 0).bind fun t328 => (if t328 = true then (impl_CoefsOk.l1 k x5 x7 x24 x25 x26 x43 x44 (wrap64 (x45 + 1)) x320000 x320001 x320002 x320003 x320004) else (some false))) else (impl_CoefsOk.l1 k x5 x7 x24 x25 x26 x43 x44 (wrap64 (x45 + 1)) x320000 x320001 x320002 x320003 x320004)))) else (some false))) else (none)) else (none)) else (impl_CoefsOk.l0 k x24 x25 (wrap64 (x26 + 1)) x320000 x320001 x320002 x320003 x320004)
end
def impl_CoefsOk.f (k : Nat) (a0_0 : Int) (a0_1 : Int) (a0_2 : Int) (a0_3 : Int) (l0_4 : List (S42)) (l1_0 : List (List (List Int))) : Option (Bool) := (impl_FrameOk.f k a0_0 a0_1 a0_2 a0_3 l0_4).bind fun t321 => (if t321 = true then (impl_CoefsOk.j0 k ((l1_0.length : Int) != (l0_4.length : Int)) a0_0 a0_1 a0_2 a0_3 l0_4 l1_0) else (impl_CoefsOk.j0 k true a0_0 a0_1 a0_2 a0_3 l0_4 l1_0))
def impl_CoefsOk.T12 : Bool × List (List Nat × List Nat) := (true, [([], []), ([0], [0]), ([1], [1]), ([2, 1], [2]), ([3], [3]), ([3], [3]), ([3], [3]), ([3], [3]), ([6, 7, 3], [3, 6, 7]), ([3], [3]), ([3], [3]), ([9, 10, 3], [3, 9, 10]), ([4, 5, 8, 11, 3, 3], [3, 4, 5, 8, 11]), ([12, 12, 3], [3, 12]), ([13], [13]), ([14, 13, 13], [13, 14]), ([15, 13], [13, 15]), ([13, 16, 3], [3, 13, 16]), ([3, 17], [3, 17])])
def impl_CoefsOk.B12 : List Nat := [0, 1, 3, 7, 15, 15, 15, 15, 207, 15, 15, 1551, 4095, 8191, 16383, 32767, 65535, 131071, 262143]
theorem impl_CoefsOk.tab12 : rtab .any (opsOf Try.f57 12) = impl_CoefsOk.T12 := by kernel_rfl
theorem impl_CoefsOk.bits12 : waitsOk impl_CoefsOk.T12.2 impl_CoefsOk.B12 = true := by kernel_rfl
set_option maxHeartbeats 8000000 in
set_option maxRecDepth 100000 in
theorem impl_CoefsOk.calls (k : Nat) (a0_0 : Int) (a0_1 : Int) (a0_2 : Int) (a0_3 : Int) (A0_4 : Option Addr) (c0_4 : Nat) (l0_4 : List (S42)) (A1_0 : Option Addr) (c1_0 : Nat) (l1_0 : List (List (List Int))) (r : Bool) (w : World) (hr0_4 : Kd.C k42 w A0_4 l0_4.length l0_4) (hc0_4 : l0_4.length ≤ c0_4) (hr1_0 : Kd.C (Kd.slice 22 (Kd.slice 3 (Kd.int .i64))) w A1_0 l1_0.length l1_0) (hc1_0 : l1_0.length ≤ c1_0) (h : impl_CoefsOk.f k a0_0 a0_1 a0_2 a0_3 l0_4 l1_0 = some r) :
  Calls Try.prog 57 #[.agg #[.int .i64 a0_0, .int .i64 a0_1, .int .i64 a0_2, .int .i64 a0_3, .slice A0_4 l0_4.length c0_4], .agg #[.slice A1_0 l1_0.length c1_0]] w fun e w' => e = .returned (.bool r) ∧ Below w.heap.size w w' := by
 have hu45 := Try.underlying45
 have hu63 := Try.underlying63
 have HR0_4 := aM hr0_4
 have HC0_4 := aM hc0_4
 clear hr0_4 hc0_4
 have HR1_0 := aM hr1_0
 have HC1_0 := aM hc1_0
 clear hr1_0 hc1_0
 have HB := aM (Below.refl w.heap.size w)
 have H : ((impl_FrameOk.f k a0_0 a0_1 a0_2 a0_3 l0_4).bind fun t321 => (if t321 = true then (impl_CoefsOk.j0 k ((l1_0.length : Int) != (l0_4.length : Int)) a0_0 a0_1 a0_2 a0_3 l0_4 l1_0) else (impl_CoefsOk.j0 k true a0_0 a0_1 a0_2 a0_3 l0_4 l1_0))) = some r := h
 clear h
 have HC3 := aM H
 clear H
 go_enter Try.func57, Try.ntmps57
 go_upto_region 1 with (first | ((with_reducible refine gate_dst (N := 2) rfl ?_); (try (refine gate_guard (by rfl) ?_; dsimp only)); refine box_event ?hg (N := 2) ?hd (cs := #[.int .i64 a0_0, .int .i64 a0_1, .int .i64 a0_2, .int .i64 a0_3, .slice A0_4 l0_4.length c0_4]) (t := 45) ?hr ?_; (case hd => rfl); (case hg => rfl); (case hr => first | (go_simp; done) | (go_simp; rfl)); intro gb319 hg w4 hbox hb; have BK319 := aM hbox; have GW319 := aM (zG hg : w.heap.size ≤ gb319); have GE319 := aM (zG hg : w.heap.size ≤ gb319); replace HB := cH HB hb; clear hb hbox hg) | ((with_reducible refine gate_dst (N := 3) rfl ?_); (try (refine gate_guard (by rfl) ?_; dsimp only)); refine box_event ?hg (N := 3) ?hd (cs := #[.slice A1_0 l1_0.length c1_0]) (t := 63) ?hr ?_; (case hd => rfl); (case hg => rfl); (case hr => first | (go_simp; done) | (go_simp; rfl)); intro gb320 hg w5 hbox hb; have BK320 := aM hbox; have GW320 := aM (zG hg : w.heap.size ≤ gb320); have GE320 := aM (zG hg : w.heap.size ≤ gb320); replace HB := cH HB hb; have NB319_320 := aM ((zL hg BK319)); have NB320_319 := aM ((zM hg BK319)); replace BK319 := cB BK319 hb; clear hb hbox hg))
 (try simp only [Act.put, List.setIfInBounds_toArray, List.set_cons_zero, List.set_cons_succ])
 go_cut [22] (fun v22 wc => ∃ (kq : Nat) (x22_2 : Bool), v22 = .bool x22_2 ∧ Aside0 (impl_CoefsOk.j0 kq x22_2 a0_0 a0_1 a0_2 a0_3 l0_4 l1_0 = some r) ∧ Aside0 (kq ≤ k) ∧ Aside0 (wc.heap[gb319]? = some (.cells #[.int .i64 a0_0, .int .i64 a0_1, .int .i64 a0_2, .int .i64 a0_3, (.slice A0_4 l0_4.length c0_4)] 45 (0, 0))) ∧ Aside0 (wc.heap[gb320]? = some (.cells #[(.slice A1_0 l1_0.length c1_0)] 63 (0, 0))) ∧ Aside0 (Below w.heap.size w wc))
 case first =>
  have H := HC3.out
  clear HC3
  obtain ⟨t321, A6, H⟩ := oH H
  by_cases c7 : t321 = true
  ·subst c7
   replace H := iT H
   have H' := aM H
   clear H
   have hnb8 := NB319_320.out
   have hnc8 := NB320_319.out
   obtain ⟨hcz9_0, hcz9_1, hcz9_2, hcz9_3, hcz9_4⟩ := kk5 BK319
   obtain ⟨hfz9_0, hfz9_1, hfz9_2, hfz9_3, hfz9_4⟩ := kg5 BK319
   go_wp2_with (first | (go_at_call 92; (with_reducible refine (impl_FrameOk.calls k a0_0 a0_1 a0_2 a0_3 _ _ l0_4 true _ ?side1 ?side2 A6.out).mono ?_); (case side1 => exact zC (Kd.C_below HR0_4.out HB.out)); (case side2 => exact HC0_4.out); rintro e w10 ⟨rfl, hb⟩; replace BK319 := cB BK319 hb; replace BK320 := cB BK320 hb; replace HB := cH HB hb; (try clear hb); have hcz11_0 := kk1 BK320; have hfz11_0 := kg1 BK320; obtain ⟨hcz12_0, hcz12_1, hcz12_2, hcz12_3, hcz12_4⟩ := kk5 BK319; obtain ⟨hfz12_0, hfz12_1, hfz12_2, hfz12_3, hfz12_4⟩ := kg5 BK319))
   go_meet
   case rel => exact ⟨_, (((l1_0.length : Int) != (l0_4.length : Int))), zS, H', zO, ⟨zK BK319⟩, ⟨zK BK320⟩, ⟨zH⟩⟩
  ·replace c7 := Bool.eq_false_iff.mpr c7
   subst c7
   replace H := iF H
   have H' := aM H
   clear H
   have hnb13 := NB319_320.out
   have hnc13 := NB320_319.out
   obtain ⟨hcz14_0, hcz14_1, hcz14_2, hcz14_3, hcz14_4⟩ := kk5 BK319
   obtain ⟨hfz14_0, hfz14_1, hfz14_2, hfz14_3, hfz14_4⟩ := kg5 BK319
   go_wp2_with (first | (go_at_call 92; (with_reducible refine (impl_FrameOk.calls k a0_0 a0_1 a0_2 a0_3 _ _ l0_4 false _ ?side1 ?side2 A6.out).mono ?_); (case side1 => exact zC (Kd.C_below HR0_4.out HB.out)); (case side2 => exact HC0_4.out); rintro e w15 ⟨rfl, hb⟩; replace BK319 := cB BK319 hb; replace BK320 := cB BK320 hb; replace HB := cH HB hb; (try clear hb)))
   go_meet
   case rel => exact ⟨_, (true), zS, H', zO, ⟨zK BK319⟩, ⟨zK BK320⟩, ⟨zH⟩⟩
 case rest =>
  clear HC3
  obtain ⟨kq, x22_2, rfl, HA, HJ2, BK319, BK320, HB⟩ := hcut
  cases kq with
  | zero => exact absurd HA.out (by simp [impl_CoefsOk.j0])
  | succ kj2 =>
   have H := HA.out
   clear HA
   simp only [impl_CoefsOk.j0] at H
   by_cases c16 : x22_2 = true
   ·subst c16
    replace H := iT H
    obtain rfl := Option.some.inj H
    go_wp2
    go_ret
    exact ⟨zR, zH⟩
   ·replace c16 := Bool.eq_false_iff.mpr c16
    subst c16
    replace H := iF H
    have H' := aM H
    clear H
    have hnb17 := NB320_319.out
    have hnc17 := NB319_320.out
    have hcz18_0 := kk1 BK320
    have hfz18_0 := kg1 BK320
    go_wp2
    go_loopg [26] kj2 (fun kq v26 w' => ∃ (x26_2 : Int), v26 = .int .i64 x26_2 ∧ Aside0 (impl_CoefsOk.l0 kq l1_0 (l1_0.length : Int) x26_2 a0_0 a0_1 a0_2 a0_3 l0_4 = some r) ∧ Aside0 (kq ≤ kj2) ∧ Aside0 (w'.heap[gb319]? = some (.cells #[.int .i64 a0_0, .int .i64 a0_1, .int .i64 a0_2, .int .i64 a0_3, (.slice A0_4 l0_4.length c0_4)] 45 (0, 0))) ∧ Aside0 (w'.heap[gb320]? = some (.cells #[(.slice A1_0 l1_0.length c1_0)] 63 (0, 0))) ∧ Aside0 (Below w.heap.size w w'))
    case atStart => exact ⟨(0), zS, H', ⟨Nat.le_refl _⟩, ⟨zK BK319⟩, ⟨zK BK320⟩, ⟨zH⟩⟩
    case round =>
     clear H'
     (try clear c16); (try clear hcz18_0); (try clear hfz18_0)
     obtain ⟨x26_2, rfl, HA, HK2, BK319, BK320, HB⟩ := hrel
     cases gk with
     | zero => exact absurd HA.out (by simp [impl_CoefsOk.l0])
     | succ k2 =>
      have H := HA.out
      clear HA
      simp only [impl_CoefsOk.l0] at H
      by_cases c19 : x26_2 < (l1_0.length : Int)
      ·rw [if_pos c19] at H
       have c19b0 : decide (x26_2 < (l1_0.length : Int)) = true := decide_eq_true c19
       clear c19
       by_cases c20 : 0 ≤ x26_2
       ·rw [if_pos c20] at H
        have c20b0 : decide (0 ≤ x26_2) = true := decide_eq_true c20
        clear c20
        by_cases c21 : x26_2 < (l1_0.length : Int)
        ·rw [if_pos c21] at H
         have c21b0 : decide (x26_2 < (l1_0.length : Int)) = true := decide_eq_true c21
         clear c21
         replace H := oB H
         obtain ⟨⟨t323, t324⟩, A220, H⟩ := H
         replace H : (if ((rd_L4 l1_0 x26_2).length : Int) = (wrap64 (t323 * t324)) then (impl_CoefsOk.l1 k2 x26_2 t323 l1_0 (l1_0.length : Int) x26_2 (rd_L4 l1_0 x26_2) ((rd_L4 l1_0 x26_2).length : Int) 0 a0_0 a0_1 a0_2 a0_3 l0_4) else (some false)) = some r := H
         have A22 := aM A220
         clear A220
         by_cases c23 : ((rd_L4 l1_0 x26_2).length : Int) = (wrap64 (t323 * t324))
         ·rw [if_pos c23] at H
          have c23b0 : (((rd_L4 l1_0 x26_2).length : Int) == (wrap64 (t323 * t324))) = true := beq_iff_eq.mpr c23
          have c23b1 : (((rd_L4 l1_0 x26_2).length : Int) != (wrap64 (t323 * t324))) = false := bne_eq_false_iff_eq.mpr c23
          clear c23
          have H' := aM H
          clear H
          have p322 : 0 ≤ (x26_2 : Int) := zA
          have q322 : x26_2 < (l1_0.length : Int) := zA
          obtain ⟨ad322, A322_0, c322_0, e322, hx322_0, hl322_0, hi322_0⟩ := at_L4 HR1_0.out x26_2 p322 q322
          cases e322
          replace hx322_0 := hX HB hx322_0
          have HR322_0 := aM hi322_0
          have HC322_0 := aM hl322_0
          clear hi322_0 hl322_0
          replace p322 := eq_true p322
          replace q322 := eq_true q322
          have hnb24 := NB319_320.out
          have hnc24 := NB320_319.out
          obtain ⟨hcz25_0, hcz25_1, hcz25_2, hcz25_3, hcz25_4⟩ := kk5 BK319
          obtain ⟨hfz25_0, hfz25_1, hfz25_2, hfz25_3, hfz25_4⟩ := kg5 BK319
          go_wp2_with (first | (go_at_call 109; (with_reducible refine (impl_Frame_blocks.calls k2 a0_0 a0_1 a0_2 a0_3 _ _ l0_4 x26_2 t323 t324 _ ?side1 ?side2 A22.out).mono ?_); (case side1 => exact zC (Kd.C_below HR0_4.out HB.out)); (case side2 => exact HC0_4.out); rintro e w26 ⟨rfl, hb⟩; replace BK319 := cB BK319 hb; replace BK320 := cB BK320 hb; replace HB := cH HB hb; (try clear hb)))
          go_loopg [45] k2 (fun kq v45 w' => ∃ (x45_3 : Int), v45 = .int .i64 x45_3 ∧ Aside0 (impl_CoefsOk.l1 kq x26_2 t323 l1_0 (l1_0.length : Int) x26_2 (rd_L4 l1_0 x26_2) ((rd_L4 l1_0 x26_2).length : Int) x45_3 a0_0 a0_1 a0_2 a0_3 l0_4 = some r) ∧ Aside0 (kq ≤ k2) ∧ Aside0 (w'.heap[gb319]? = some (.cells #[.int .i64 a0_0, .int .i64 a0_1, .int .i64 a0_2, .int .i64 a0_3, (.slice A0_4 l0_4.length c0_4)] 45 (0, 0))) ∧ Aside0 (w'.heap[gb320]? = some (.cells #[(.slice (some ad322) l1_0.length c1_0)] 63 (0, 0))) ∧ Aside0 (Below w.heap.size w w'))
          case atStart => exact ⟨(0), zS, H', ⟨Nat.le_refl _⟩, ⟨zK BK319⟩, ⟨zK BK320⟩, ⟨zH⟩⟩
          case round =>
           clear H'
           (try clear c19b0); (try clear c20b0); (try clear c21b0); (try clear c23b0); (try clear c23b1); (try clear hcz25_0); (try clear hcz25_1); (try clear hcz25_2); (try clear hcz25_3); (try clear hcz25_4); (try clear hfz25_0); (try clear hfz25_1); (try clear hfz25_2); (try clear hfz25_3); (try clear hfz25_4); (try clear hx322_0); (try clear p322); (try clear q322)
           obtain ⟨x45_3, rfl, HA, HK3, BK319, BK320, HB⟩ := hrel
           cases gk with
           | zero => exact absurd HA.out (by simp [impl_CoefsOk.l1])
           | succ k3 =>
            have H := HA.out
            clear HA
            simp only [impl_CoefsOk.l1] at H
            by_cases c27 : x45_3 < ((rd_L4 l1_0 x26_2).length : Int)
            ·rw [if_pos c27] at H
             have c27b0 : decide (x45_3 < ((rd_L4 l1_0 x26_2).length : Int)) = true := decide_eq_true c27
             clear c27
             by_cases c28 : 0 ≤ x45_3
             ·rw [if_pos c28] at H
              have c28b0 : decide (0 ≤ x45_3) = true := decide_eq_true c28
              clear c28
              by_cases c29 : x45_3 < ((rd_L4 l1_0 x26_2).length : Int)
              ·rw [if_pos c29] at H
               have c29b0 : decide (x45_3 < ((rd_L4 l1_0 x26_2).length : Int)) = true := decide_eq_true c29
               clear c29
               obtain ⟨t326, A30, H⟩ := oH H
               by_cases c31 : t326 = true
               ·subst c31
                replace H := iT H
                by_cases c32 : t323 = 0
                ·rw [if_pos c32] at H
                 exact absurd H (by simp)
                ·rw [if_neg c32] at H
                 have c32b0 : (t323 == 0) = false := beq_eq_false_iff_ne.mpr c32
                 have c32b1 : (t323 != 0) = true := bne_iff_ne.mpr c32
                 obtain ⟨t327, A33, H⟩ := oH H
                 by_cases c34 : t327 = true
                 ·subst c34
                  replace H := iT H
                  obtain ⟨t328, A35, H⟩ := oH H
                  by_cases c36 : t328 = true
                  ·subst c36
                   replace H := iT H
                   have H' := aM H
                   clear H
                   have p325 : 0 ≤ (x45_3 : Int) := zA
                   have q325 : x45_3 < ((rd_L4 l1_0 x26_2).length : Int) := zA
                   obtain ⟨ad325, A325_0, c325_0, e325, hx325_0, hl325_0, hi325_0⟩ := at_L3 HR322_0.out x45_3 p325 q325
                   cases e325
                   replace hx325_0 := hX HB hx325_0
                   have HR325_0 := aM hi325_0
                   have HC325_0 := aM hl325_0
                   clear hi325_0 hl325_0
                   replace p325 := eq_true p325
                   replace q325 := eq_true q325
                   try go_wp2
                   have n0_ := aM (kD BK319.out)
                   have n1_ := aM (kD BK320.out)
                   have n2_ := aM (b1 HB.out)
                   clear BK319
                   clear BK320
                   clear HB
                   have BK319 := n0_
                   have BK320 := n1_
                   have HB := n2_
                   clear n0_ n1_ n2_
                   refine start_ (n := 19) (S := fun w' => w'.cell? ⟨gb319, 0, none⟩ = some (.int .i64 a0_0) ∧ w'.cell? ⟨gb319, 1, none⟩ = some (.int .i64 a0_1) ∧ w'.cell? ⟨gb319, 2, none⟩ = some (.int .i64 a0_2) ∧ w'.cell? ⟨gb319, 3, none⟩ = some (.int .i64 a0_3) ∧ w'.cell? ⟨gb319, 4, none⟩ = some (.slice A0_4 l0_4.length c0_4)) (ds := []) #[false, false, false, false, false, false, false, false, false, false, false, false, false, false, false, false, false, false, false] (by kernel_rfl) rfl rfl ⟨(kC BK319.out 0).trans rfl, (kC BK319.out 1).trans rfl, (kC BK319.out 2).trans rfl, (kC BK319.out 3).trans rfl, (kC BK319.out 4).trans rfl⟩ (fun hHeld => ?_); refine with_tabW impl_CoefsOk.tab12 impl_CoefsOk.bits12 (fun HT_ HW_ => ?_)
                   generalize wr.drew = w37 at BK319 BK320 HB hHeld ⊢
                   refine zP 0 (some 50) HT_ ?_
                   refine zOn 1 (some 51) HT_ (fun K hK => ?_)
                   refine zGo Try.func73 #[.slice A325_0 (rd_L3 (rd_L4 l1_0 x26_2) x45_3).length c325_0] ?_
                   with_reducible refine (impl_isLevels.calls k3 _ _ (rd_L3 (rd_L4 l1_0 x26_2) x45_3) true _ ?side1 ?side2 A30.out).mono ?_
                   (case side1 => exact zC (Kd.C_below HR325_0.out HB.out))
                   (case side2 => exact HC325_0.out)
                   rintro e w' ⟨rfl, ⟨nd, rfl⟩⟩
                   refine ⟨_, rfl, ?_⟩
                   refine hK.out _ _ ⟨(kC BK319.out 0).trans rfl, (kC BK319.out 1).trans rfl, (kC BK319.out 2).trans rfl, (kC BK319.out 3).trans rfl, (kC BK319.out 4).trans rfl⟩ (fun hHeld => ?_)
                   clear hK K
                   refine zNo (some 51) ?_
                   refine zP 2 (some 52) HT_ ?_
                   refine zP 3 (some 53) HT_ ?_
                   refine zP 5 (some 55) HT_ ?_
                   refine zP 6 (some 56) HT_ ?_
                   refine zP 7 (some 57) HT_ ?_
                   refine zP 8 (some 58) HT_ ?_
                   refine zP 9 (some 59) HT_ ?_
                   refine zP 10 (some 60) HT_ ?_
                   refine zP 11 (some 61) HT_ ?_
                   refine zT 4 (some 54) HT_ HW_ hHeld (hy := Or.inl ⟨by rfl, by rintro w' ⟨s0, s1, s2, s3, s4⟩; go_simp; with_reducible rfl⟩) (h := ?_)
                   refine zOn 12 (some 62) HT_ (fun K hK => ?_)
                   refine zGo Try.func110 #[.agg #[.int .i64 a0_0, .int .i64 a0_1, .int .i64 a0_2, .int .i64 a0_3, .slice A0_4 l0_4.length c0_4], .int .i64 x26_2, .int .i64 (wrap64 (Int.tdiv x45_3 t323)), .int .i64 (Int.tmod x45_3 t323)] ?_
                   with_reducible refine (impl_Frame_isHidden.calls k3 a0_0 a0_1 a0_2 a0_3 _ _ l0_4 x26_2 (wrap64 (Int.tdiv x45_3 t323)) (Int.tmod x45_3 t323) true _ ?side1 ?side2 A33.out).mono ?_
                   (case side1 => exact zC (Kd.C_below HR0_4.out zH))
                   (case side2 => exact HC0_4.out)
                   rintro e w38 ⟨rfl, hb⟩
                   refine ⟨_, rfl, ?_⟩
                   have n0_ := cB BK319 hb
                   have n1_ := cB BK320 hb
                   have n2_ := cH HB hb
                   clear BK319
                   clear BK320
                   clear HB
                   have BK319 := n0_
                   have BK320 := n1_
                   have HB := n2_
                   clear n0_ n1_ n2_
                   (try clear hb)
                   (try clear hb2)
                   (try clear hk)
                   (try clear hi)
                   refine hK.out _ _ ⟨(kC BK319.out 0).trans rfl, (kC BK319.out 1).trans rfl, (kC BK319.out 2).trans rfl, (kC BK319.out 3).trans rfl, (kC BK319.out 4).trans rfl⟩ (fun hHeld => ?_)
                   clear hK K
                   refine zNo (some 62) ?_
                   refine zP 13 (some 63) HT_ ?_
                   refine zP 14 (some 64) HT_ ?_
                   refine zOn 15 (some 65) HT_ (fun K hK => ?_)
                   refine zGo Try.func111 #[.slice A325_0 (rd_L3 (rd_L4 l1_0 x26_2) x45_3).length c325_0, .int .i64 0, .int .i64 0] ?_
                   with_reducible refine (impl_allWithin.calls k3 _ _ (rd_L3 (rd_L4 l1_0 x26_2) x45_3) 0 0 true _ ?side1 ?side2 A35.out).mono ?_
                   (case side1 => exact zC (Kd.C_below HR325_0.out HB.out))
                   (case side2 => exact HC325_0.out)
                   rintro e w' ⟨rfl, ⟨nd, rfl⟩⟩
                   refine ⟨_, rfl, ?_⟩
                   refine hK.out _ _ ⟨(kC BK319.out 0).trans rfl, (kC BK319.out 1).trans rfl, (kC BK319.out 2).trans rfl, (kC BK319.out 3).trans rfl, (kC BK319.out 4).trans rfl⟩ (fun hHeld => ?_)
                   clear hK K
                   refine zNo (some 65) ?_
                   refine zP 16 (some 66) HT_ ?_
                   refine zP 17 (some 67) HT_ ?_
                   refine zP 18 (some 68) HT_ ?_
                   refine done_ (done_of HT_.out (by kernel_rfl)) ?_
                   try go_wp2
                   go_roundg k3
                   case measure => have := HJ2.out; have := HK2.out; have := HK3.out; omega
                   case rel => exact ⟨(wrap64 (x45_3 + 1)), zS, H', ⟨by have := HJ2.out; have := HK2.out; have := HK3.out; omega⟩, ⟨zK BK319⟩, ⟨zK BK320⟩, ⟨zH⟩⟩
                  ·replace c36 := Bool.eq_false_iff.mpr c36
                   subst c36
                   replace H := iF H
                   obtain rfl := Option.some.inj H
                   have p325 : 0 ≤ (x45_3 : Int) := zA
                   have q325 : x45_3 < ((rd_L4 l1_0 x26_2).length : Int) := zA
                   obtain ⟨ad325, A325_0, c325_0, e325, hx325_0, hl325_0, hi325_0⟩ := at_L3 HR322_0.out x45_3 p325 q325
                   cases e325
                   replace hx325_0 := hX HB hx325_0
                   have HR325_0 := aM hi325_0
                   have HC325_0 := aM hl325_0
                   clear hi325_0 hl325_0
                   replace p325 := eq_true p325
                   replace q325 := eq_true q325
                   try go_wp2
                   have n0_ := aM (kD BK319.out)
                   have n1_ := aM (kD BK320.out)
                   have n2_ := aM (b1 HB.out)
                   clear BK319
                   clear BK320
                   clear HB
                   have BK319 := n0_
                   have BK320 := n1_
                   have HB := n2_
                   clear n0_ n1_ n2_
                   refine start_ (n := 19) (S := fun w' => w'.cell? ⟨gb319, 0, none⟩ = some (.int .i64 a0_0) ∧ w'.cell? ⟨gb319, 1, none⟩ = some (.int .i64 a0_1) ∧ w'.cell? ⟨gb319, 2, none⟩ = some (.int .i64 a0_2) ∧ w'.cell? ⟨gb319, 3, none⟩ = some (.int .i64 a0_3) ∧ w'.cell? ⟨gb319, 4, none⟩ = some (.slice A0_4 l0_4.length c0_4)) (ds := []) #[false, false, false, false, false, false, false, false, false, false, false, false, false, false, false, false, false, false, false] (by kernel_rfl) rfl rfl ⟨(kC BK319.out 0).trans rfl, (kC BK319.out 1).trans rfl, (kC BK319.out 2).trans rfl, (kC BK319.out 3).trans rfl, (kC BK319.out 4).trans rfl⟩ (fun hHeld => ?_); refine with_tabW impl_CoefsOk.tab12 impl_CoefsOk.bits12 (fun HT_ HW_ => ?_)
                   generalize wr.drew = w39 at BK319 BK320 HB hHeld ⊢
                   refine zP 0 (some 50) HT_ ?_
                   refine zOn 1 (some 51) HT_ (fun K hK => ?_)
                   refine zGo Try.func73 #[.slice A325_0 (rd_L3 (rd_L4 l1_0 x26_2) x45_3).length c325_0] ?_
                   with_reducible refine (impl_isLevels.calls k3 _ _ (rd_L3 (rd_L4 l1_0 x26_2) x45_3) true _ ?side1 ?side2 A30.out).mono ?_
                   (case side1 => exact zC (Kd.C_below HR325_0.out HB.out))
                   (case side2 => exact HC325_0.out)
                   rintro e w' ⟨rfl, ⟨nd, rfl⟩⟩
                   refine ⟨_, rfl, ?_⟩
                   refine hK.out _ _ ⟨(kC BK319.out 0).trans rfl, (kC BK319.out 1).trans rfl, (kC BK319.out 2).trans rfl, (kC BK319.out 3).trans rfl, (kC BK319.out 4).trans rfl⟩ (fun hHeld => ?_)
                   clear hK K
                   refine zNo (some 51) ?_
                   refine zP 2 (some 52) HT_ ?_
                   refine zP 3 (some 53) HT_ ?_
                   refine zP 5 (some 55) HT_ ?_
                   refine zP 6 (some 56) HT_ ?_
                   refine zP 7 (some 57) HT_ ?_
                   refine zP 8 (some 58) HT_ ?_
                   refine zP 9 (some 59) HT_ ?_
                   refine zP 10 (some 60) HT_ ?_
                   refine zP 11 (some 61) HT_ ?_
                   refine zT 4 (some 54) HT_ HW_ hHeld (hy := Or.inl ⟨by rfl, by rintro w' ⟨s0, s1, s2, s3, s4⟩; go_simp; with_reducible rfl⟩) (h := ?_)
                   refine zOn 12 (some 62) HT_ (fun K hK => ?_)
                   refine zGo Try.func110 #[.agg #[.int .i64 a0_0, .int .i64 a0_1, .int .i64 a0_2, .int .i64 a0_3, .slice A0_4 l0_4.length c0_4], .int .i64 x26_2, .int .i64 (wrap64 (Int.tdiv x45_3 t323)), .int .i64 (Int.tmod x45_3 t323)] ?_
                   with_reducible refine (impl_Frame_isHidden.calls k3 a0_0 a0_1 a0_2 a0_3 _ _ l0_4 x26_2 (wrap64 (Int.tdiv x45_3 t323)) (Int.tmod x45_3 t323) true _ ?side1 ?side2 A33.out).mono ?_
                   (case side1 => exact zC (Kd.C_below HR0_4.out zH))
                   (case side2 => exact HC0_4.out)
                   rintro e w40 ⟨rfl, hb⟩
                   refine ⟨_, rfl, ?_⟩
                   have n0_ := cB BK319 hb
                   have n1_ := cB BK320 hb
                   have n2_ := cH HB hb
                   clear BK319
                   clear BK320
                   clear HB
                   have BK319 := n0_
                   have BK320 := n1_
                   have HB := n2_
                   clear n0_ n1_ n2_
                   (try clear hb)
                   (try clear hb2)
                   (try clear hk)
                   (try clear hi)
                   refine hK.out _ _ ⟨(kC BK319.out 0).trans rfl, (kC BK319.out 1).trans rfl, (kC BK319.out 2).trans rfl, (kC BK319.out 3).trans rfl, (kC BK319.out 4).trans rfl⟩ (fun hHeld => ?_)
                   clear hK K
                   refine zNo (some 62) ?_
                   refine zP 13 (some 63) HT_ ?_
                   refine zP 14 (some 64) HT_ ?_
                   refine zOn 15 (some 65) HT_ (fun K hK => ?_)
                   refine zGo Try.func111 #[.slice A325_0 (rd_L3 (rd_L4 l1_0 x26_2) x45_3).length c325_0, .int .i64 0, .int .i64 0] ?_
                   with_reducible refine (impl_allWithin.calls k3 _ _ (rd_L3 (rd_L4 l1_0 x26_2) x45_3) 0 0 false _ ?side1 ?side2 A35.out).mono ?_
                   (case side1 => exact zC (Kd.C_below HR325_0.out HB.out))
                   (case side2 => exact HC325_0.out)
                   rintro e w' ⟨rfl, ⟨nd, rfl⟩⟩
                   refine ⟨_, rfl, ?_⟩
                   refine hK.out _ _ ⟨(kC BK319.out 0).trans rfl, (kC BK319.out 1).trans rfl, (kC BK319.out 2).trans rfl, (kC BK319.out 3).trans rfl, (kC BK319.out 4).trans rfl⟩ (fun hHeld => ?_)
                   clear hK K
                   refine zNo (some 65) ?_
                   refine zP 16 (some 66) HT_ ?_
                   refine zP 17 (some 67) HT_ ?_
                   refine zP 18 (some 68) HT_ ?_
                   refine done_ (done_of HT_.out (by kernel_rfl)) ?_
                   try go_wp2
                   go_ret
                   exact ⟨zR, zH⟩
                 ·replace c34 := Bool.eq_false_iff.mpr c34
                  subst c34
                  replace H := iF H
                  have H' := aM H
                  clear H
                  have p325 : 0 ≤ (x45_3 : Int) := zA
                  have q325 : x45_3 < ((rd_L4 l1_0 x26_2).length : Int) := zA
                  obtain ⟨ad325, A325_0, c325_0, e325, hx325_0, hl325_0, hi325_0⟩ := at_L3 HR322_0.out x45_3 p325 q325
                  cases e325
                  replace hx325_0 := hX HB hx325_0
                  have HR325_0 := aM hi325_0
                  have HC325_0 := aM hl325_0
                  clear hi325_0 hl325_0
                  replace p325 := eq_true p325
                  replace q325 := eq_true q325
                  try go_wp2
                  have n0_ := aM (kD BK319.out)
                  have n1_ := aM (kD BK320.out)
                  have n2_ := aM (b1 HB.out)
                  clear BK319
                  clear BK320
                  clear HB
                  have BK319 := n0_
                  have BK320 := n1_
                  have HB := n2_
                  clear n0_ n1_ n2_
                  refine start_ (n := 19) (S := fun w' => w'.cell? ⟨gb319, 0, none⟩ = some (.int .i64 a0_0) ∧ w'.cell? ⟨gb319, 1, none⟩ = some (.int .i64 a0_1) ∧ w'.cell? ⟨gb319, 2, none⟩ = some (.int .i64 a0_2) ∧ w'.cell? ⟨gb319, 3, none⟩ = some (.int .i64 a0_3) ∧ w'.cell? ⟨gb319, 4, none⟩ = some (.slice A0_4 l0_4.length c0_4)) (ds := []) #[false, false, false, false, false, false, false, false, false, false, false, false, false, false, false, false, false, false, false] (by kernel_rfl) rfl rfl ⟨(kC BK319.out 0).trans rfl, (kC BK319.out 1).trans rfl, (kC BK319.out 2).trans rfl, (kC BK319.out 3).trans rfl, (kC BK319.out 4).trans rfl⟩ (fun hHeld => ?_); refine with_tabW impl_CoefsOk.tab12 impl_CoefsOk.bits12 (fun HT_ HW_ => ?_)
                  generalize wr.drew = w41 at BK319 BK320 HB hHeld ⊢
                  refine zP 0 (some 50) HT_ ?_
                  refine zOn 1 (some 51) HT_ (fun K hK => ?_)
                  refine zGo Try.func73 #[.slice A325_0 (rd_L3 (rd_L4 l1_0 x26_2) x45_3).length c325_0] ?_
                  with_reducible refine (impl_isLevels.calls k3 _ _ (rd_L3 (rd_L4 l1_0 x26_2) x45_3) true _ ?side1 ?side2 A30.out).mono ?_
                  (case side1 => exact zC (Kd.C_below HR325_0.out HB.out))
                  (case side2 => exact HC325_0.out)
                  rintro e w' ⟨rfl, ⟨nd, rfl⟩⟩
                  refine ⟨_, rfl, ?_⟩
                  refine hK.out _ _ ⟨(kC BK319.out 0).trans rfl, (kC BK319.out 1).trans rfl, (kC BK319.out 2).trans rfl, (kC BK319.out 3).trans rfl, (kC BK319.out 4).trans rfl⟩ (fun hHeld => ?_)
                  clear hK K
                  refine zNo (some 51) ?_
                  refine zP 2 (some 52) HT_ ?_
                  refine zP 3 (some 53) HT_ ?_
                  refine zP 5 (some 55) HT_ ?_
                  refine zP 6 (some 56) HT_ ?_
                  refine zP 7 (some 57) HT_ ?_
                  refine zP 8 (some 58) HT_ ?_
                  refine zP 9 (some 59) HT_ ?_
                  refine zP 10 (some 60) HT_ ?_
                  refine zP 11 (some 61) HT_ ?_
                  refine zT 4 (some 54) HT_ HW_ hHeld (hy := Or.inl ⟨by rfl, by rintro w' ⟨s0, s1, s2, s3, s4⟩; go_simp; with_reducible rfl⟩) (h := ?_)
                  refine zOn 12 (some 62) HT_ (fun K hK => ?_)
                  refine zGo Try.func110 #[.agg #[.int .i64 a0_0, .int .i64 a0_1, .int .i64 a0_2, .int .i64 a0_3, .slice A0_4 l0_4.length c0_4], .int .i64 x26_2, .int .i64 (wrap64 (Int.tdiv x45_3 t323)), .int .i64 (Int.tmod x45_3 t323)] ?_
                  with_reducible refine (impl_Frame_isHidden.calls k3 a0_0 a0_1 a0_2 a0_3 _ _ l0_4 x26_2 (wrap64 (Int.tdiv x45_3 t323)) (Int.tmod x45_3 t323) false _ ?side1 ?side2 A33.out).mono ?_
                  (case side1 => exact zC (Kd.C_below HR0_4.out zH))
                  (case side2 => exact HC0_4.out)
                  rintro e w42 ⟨rfl, hb⟩
                  refine ⟨_, rfl, ?_⟩
                  have n0_ := cB BK319 hb
                  have n1_ := cB BK320 hb
                  have n2_ := cH HB hb
                  clear BK319
                  clear BK320
                  clear HB
                  have BK319 := n0_
                  have BK320 := n1_
                  have HB := n2_
                  clear n0_ n1_ n2_
                  (try clear hb)
                  (try clear hb2)
                  (try clear hk)
                  (try clear hi)
                  refine hK.out _ _ ⟨(kC BK319.out 0).trans rfl, (kC BK319.out 1).trans rfl, (kC BK319.out 2).trans rfl, (kC BK319.out 3).trans rfl, (kC BK319.out 4).trans rfl⟩ (fun hHeld => ?_)
                  clear hK K
                  refine zNo (some 62) ?_
                  refine zP 13 (some 63) HT_ ?_
                  refine zU 14 (some 64) HT_ ?_
                  refine zU 15 (some 65) HT_ ?_
                  refine zU 16 (some 66) HT_ ?_
                  refine zP 17 (some 67) HT_ ?_
                  refine zP 18 (some 68) HT_ ?_
                  refine done_ (done_of HT_.out (by kernel_rfl)) ?_
                  try go_wp2
                  go_roundg k3
                  case measure => have := HJ2.out; have := HK2.out; have := HK3.out; omega
                  case rel => exact ⟨(wrap64 (x45_3 + 1)), zS, H', ⟨by have := HJ2.out; have := HK2.out; have := HK3.out; omega⟩, ⟨zK BK319⟩, ⟨zK BK320⟩, ⟨zH⟩⟩
               ·replace c31 := Bool.eq_false_iff.mpr c31
                subst c31
                replace H := iF H
                obtain rfl := Option.some.inj H
                have p325 : 0 ≤ (x45_3 : Int) := zA
                have q325 : x45_3 < ((rd_L4 l1_0 x26_2).length : Int) := zA
                obtain ⟨ad325, A325_0, c325_0, e325, hx325_0, hl325_0, hi325_0⟩ := at_L3 HR322_0.out x45_3 p325 q325
                cases e325
                replace hx325_0 := hX HB hx325_0
                have HR325_0 := aM hi325_0
                have HC325_0 := aM hl325_0
                clear hi325_0 hl325_0
                replace p325 := eq_true p325
                replace q325 := eq_true q325
                try go_wp2
                have n0_ := aM (kD BK319.out)
                have n1_ := aM (kD BK320.out)
                have n2_ := aM (b1 HB.out)
                clear BK319
                clear BK320
                clear HB
                have BK319 := n0_
                have BK320 := n1_
                have HB := n2_
                clear n0_ n1_ n2_
                refine start_ (n := 19) (S := fun w' => True) (ds := []) #[false, false, false, false, false, false, false, false, false, false, false, false, false, false, false, false, false, false, false] (by kernel_rfl) rfl rfl trivial (fun hHeld => ?_); refine with_tabW impl_CoefsOk.tab12 impl_CoefsOk.bits12 (fun HT_ HW_ => ?_)
                generalize wr.drew = w43 at BK319 BK320 HB hHeld ⊢
                refine zP 0 (some 50) HT_ ?_
                refine zOn 1 (some 51) HT_ (fun K hK => ?_)
                refine zGo Try.func73 #[.slice A325_0 (rd_L3 (rd_L4 l1_0 x26_2) x45_3).length c325_0] ?_
                with_reducible refine (impl_isLevels.calls k3 _ _ (rd_L3 (rd_L4 l1_0 x26_2) x45_3) false _ ?side1 ?side2 A30.out).mono ?_
                (case side1 => exact zC (Kd.C_below HR325_0.out HB.out))
                (case side2 => exact HC325_0.out)
                rintro e w' ⟨rfl, ⟨nd, rfl⟩⟩
                refine ⟨_, rfl, ?_⟩
                refine hK.out _ _ trivial (fun hHeld => ?_)
                clear hK K
                refine zNo (some 51) ?_
                refine zP 2 (some 52) HT_ ?_
                refine zP 3 (some 53) HT_ ?_
                refine zU 4 (some 54) HT_ ?_
                refine zU 5 (some 55) HT_ ?_
                refine zU 6 (some 56) HT_ ?_
                refine zU 7 (some 57) HT_ ?_
                refine zU 8 (some 58) HT_ ?_
                refine zU 9 (some 59) HT_ ?_
                refine zU 10 (some 60) HT_ ?_
                refine zU 11 (some 61) HT_ ?_
                refine zU 12 (some 62) HT_ ?_
                refine zU 13 (some 63) HT_ ?_
                refine zU 14 (some 64) HT_ ?_
                refine zU 15 (some 65) HT_ ?_
                refine zU 16 (some 66) HT_ ?_
                refine zU 17 (some 67) HT_ ?_
                refine zP 18 (some 68) HT_ ?_
                refine done_ (done_of HT_.out (by kernel_rfl)) ?_
                try go_wp2
                go_ret
                exact ⟨zR, zH⟩
              ·rw [if_neg c29] at H
               exact absurd H (by simp)
             ·rw [if_neg c28] at H
              exact absurd H (by simp)
            ·rw [if_neg c27] at H
             have c27b0 : decide (x45_3 < ((rd_L4 l1_0 x26_2).length : Int)) = false := decide_eq_false c27
             clear c27
             have H' := aM H
             clear H
             go_wp2
             go_roundg k3
             case measure => have := HJ2.out; have := HK2.out; have := HK3.out; omega
             case rel => exact ⟨(wrap64 (x26_2 + 1)), zS, H', ⟨by have := HJ2.out; have := HK2.out; have := HK3.out; omega⟩, ⟨zK BK319⟩, ⟨zK BK320⟩, ⟨zH⟩⟩
         ·rw [if_neg c23] at H
          have c23b0 : (((rd_L4 l1_0 x26_2).length : Int) == (wrap64 (t323 * t324))) = false := beq_eq_false_iff_ne.mpr c23
          have c23b1 : (((rd_L4 l1_0 x26_2).length : Int) != (wrap64 (t323 * t324))) = true := bne_iff_ne.mpr c23
          obtain rfl := Option.some.inj H
          have p322 : 0 ≤ (x26_2 : Int) := zA
          have q322 : x26_2 < (l1_0.length : Int) := zA
          obtain ⟨ad322, A322_0, c322_0, e322, hx322_0, hl322_0, hi322_0⟩ := at_L4 HR1_0.out x26_2 p322 q322
          cases e322
          replace hx322_0 := hX HB hx322_0
          have HR322_0 := aM hi322_0
          have HC322_0 := aM hl322_0
          clear hi322_0 hl322_0
          replace p322 := eq_true p322
          replace q322 := eq_true q322
          have hnb44 := NB319_320.out
          have hnc44 := NB320_319.out
          obtain ⟨hcz45_0, hcz45_1, hcz45_2, hcz45_3, hcz45_4⟩ := kk5 BK319
          obtain ⟨hfz45_0, hfz45_1, hfz45_2, hfz45_3, hfz45_4⟩ := kg5 BK319
          go_wp2_with (first | (go_at_call 109; (with_reducible refine (impl_Frame_blocks.calls k2 a0_0 a0_1 a0_2 a0_3 _ _ l0_4 x26_2 t323 t324 _ ?side1 ?side2 A22.out).mono ?_); (case side1 => exact zC (Kd.C_below HR0_4.out HB.out)); (case side2 => exact HC0_4.out); rintro e w46 ⟨rfl, hb⟩; replace BK319 := cB BK319 hb; replace BK320 := cB BK320 hb; replace HB := cH HB hb; (try clear hb)))
          go_ret
          exact ⟨zR, zH⟩
        ·rw [if_neg c21] at H
         exact absurd H (by simp)
       ·rw [if_neg c20] at H
        exact absurd H (by simp)
      ·rw [if_neg c19] at H
       have c19b0 : decide (x26_2 < (l1_0.length : Int)) = false := decide_eq_false c19
       clear c19
       obtain rfl := Option.some.inj H
       go_wp2
       go_ret
       exact ⟨zR, zH⟩

end Go.Proofs.Ythajjjpblkhmmaa.CB
