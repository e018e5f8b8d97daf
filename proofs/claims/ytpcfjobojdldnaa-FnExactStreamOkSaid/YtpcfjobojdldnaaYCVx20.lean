/- Functions that a law of this seat reaches: written by a program of this session (wip/xprint.py), and by hand. -/
import Derived.Test.YtpcfjobojdldnaaYMac
import Derived.Test.YtpcfjobojdldnaaYCVx0
import Derived.Test.YtpcfjobojdldnaaYCVx1
import Derived.Test.YtpcfjobojdldnaaYCVx3
import Derived.Test.YtpcfjobojdldnaaYCVx6
import Derived.Test.YtpcfjobojdldnaaYCVx9
import Derived.Test.YtpcfjobojdldnaaYCVx11
import Derived.Test.YtpcfjobojdldnaaYCVx13
import Derived.Test.YtpcfjobojdldnaaYCVx14
import Derived.Test.YtpcfjobojdldnaaYCVx15
import Derived.Test.YtpcfjobojdldnaaYCVx16
import Derived.Test.YtpcfjobojdldnaaYCVx17
import Derived.Test.YtpcfjobojdldnaaYCVx18
import Derived.Test.YtpcfjobojdldnaaYCVx19
namespace Go.Proofs.Ytpcfjobojdldnaa.CV
open Go.RowKit Go.Proofs.Ytpcfjobojdldnaa.B Go.Proofs.YtpcfjobojdldnaaW.PrintWords Go.Proofs.YtpcfjobojdldnaaW.PrintLast Go.Proofs.YtpcfjobojdldnaaW.PrintMore
attribute [local go_sem] max2_int min2_int max_two min_two max_three min_three max_four min_four   -- for this text's walks alone
set_option linter.unusedVariables false
set_option linter.unusedSimpArgs false

/-! ### impl_leftOf: function 55 -/
mutual
def impl_leftOf.j0 : Nat → List (S86) → Bool → Int → Int → Int → Int → List (S74) → Option ((List (List Int)) × Bool)
  | 0, _, _, _, _, _, _, _ => none
  | k + 1, x1, x16, x448000, x448001, x448002, x448003, x448004 => if x16 = true then (some (([] : List (List Int)), false)) else ((impl_untold.f k x448000 x448001 x448002 x448003 x448004).bind fun t449 => (impl_leftOf.l0 k t449 x1 (x1.length : Int) 0))
def impl_leftOf.l0 : Nat → List (List Int) → List (S86) → Int → Int → Option ((List (List Int)) × Bool)
  | 0, _, _, _, _ => none
  | k + 1, x6, x19, x20, x21 => if x21 < x20 then (if 0 ≤ x21 then (if x21 < (x19.length : Int) then ((impl_tell.f k x6 ((rd_T86 x19 x21).f0) ((rd_T86 x19 x21).f1) ((rd_T86 x19 x21).f2) ((rd_T86 x19 x21).f3) ((rd_T86 x19 x21).f4)).bind fun bt454 => (if bt454.1 = true then (impl_leftOf.l0 k bt454.2 x19 x20 (wrap64 (x21 + 1))) else (some (([] : List (List Int)), false)))) else (none)) else (none)) else (some (x6, true))
end
def impl_leftOf.f (k : Nat) (a0_0 : Int) (a0_1 : Int) (a0_2 : Int) (a0_3 : Int) (l0_4 : List (S74)) (l1 : List (S86)) : Option ((List (List Int)) × Bool) := if (l1.length : Int) > 40 then (impl_leftOf.j0 k l1 true a0_0 a0_1 a0_2 a0_3 l0_4) else ((impl_leftOf_1.f l1 a0_0 a0_1 a0_2 a0_3 l0_4).bind fun t448 => (impl_leftOf.j0 k l1 t448 a0_0 a0_1 a0_2 a0_3 l0_4))
theorem impl_leftOf.mono_l : ∀ k, (∀ y0 y1 y2 y3 y4 y5 y6, LeO (impl_leftOf.j0 k y0 y1 y2 y3 y4 y5 y6) (impl_leftOf.j0 (k + 1) y0 y1 y2 y3 y4 y5 y6)) ∧ (∀ y0 y1 y2 y3, LeO (impl_leftOf.l0 k y0 y1 y2 y3) (impl_leftOf.l0 (k + 1) y0 y1 y2 y3))
 | 0 => ⟨fun _ _ _ _ _ _ _ r h => by simp [impl_leftOf.j0] at h, fun _ _ _ _ r h => by simp [impl_leftOf.l0] at h⟩
 | k + 1 => by
  obtain ⟨ih0, ih1⟩ := impl_leftOf.mono_l k
  refine ⟨?_, ?_⟩
  ·intro y0 y1 y2 y3 y4 y5 y6
   unfold impl_leftOf.j0
   repeat' first
   | (with_reducible exact ih0 _ _ _ _ _ _ _)
   | (with_reducible exact ih1 _ _ _ _)
   | (with_reducible exact impl_tell.mono _ _ _ _ _ _ _)
   | (with_reducible exact impl_untold.mono _ _ _ _ _ _)
   | (with_reducible exact LeO.refl _)
   | (with_reducible exact LeO.none _)
   | (with_reducible refine LeO.ite ?_ ?_)
   | (with_reducible refine LeO.bind ?_ (fun _ => ?_))
   | exact ih0 _ _ _ _ _ _ _
   | exact ih1 _ _ _ _
   | exact impl_tell.mono _ _ _ _ _ _ _
   | exact impl_untold.mono _ _ _ _ _ _
   | exact LeO.none _
   | refine LeO.ite ?_ ?_
   | refine LeO.bind ?_ (fun _ => ?_)
  ·intro y0 y1 y2 y3
   unfold impl_leftOf.l0
   repeat' first
   | (with_reducible exact ih0 _ _ _ _ _ _ _)
   | (with_reducible exact ih1 _ _ _ _)
   | (with_reducible exact impl_tell.mono _ _ _ _ _ _ _)
   | (with_reducible exact impl_untold.mono _ _ _ _ _ _)
   | (with_reducible exact LeO.refl _)
   | (with_reducible exact LeO.none _)
   | (with_reducible refine LeO.ite ?_ ?_)
   | (with_reducible refine LeO.bind ?_ (fun _ => ?_))
   | exact ih0 _ _ _ _ _ _ _
   | exact ih1 _ _ _ _
   | exact impl_tell.mono _ _ _ _ _ _ _
   | exact impl_untold.mono _ _ _ _ _ _
   | exact LeO.none _
   | refine LeO.ite ?_ ?_
   | refine LeO.bind ?_ (fun _ => ?_)
theorem impl_leftOf.mono : ∀ a0 a1 a2 a3 a4 a5 k, LeO (impl_leftOf.f k a0 a1 a2 a3 a4 a5) (impl_leftOf.f (k + 1) a0 a1 a2 a3 a4 a5) := by
 intro a0 a1 a2 a3 a4 a5 k
 obtain ⟨ih0, ih1⟩ := impl_leftOf.mono_l k
 unfold impl_leftOf.f
 repeat' first
   | (with_reducible exact ih0 _ _ _ _ _ _ _)
   | (with_reducible exact ih1 _ _ _ _)
   | (with_reducible exact impl_tell.mono _ _ _ _ _ _ _)
   | (with_reducible exact impl_untold.mono _ _ _ _ _ _)
   | (with_reducible exact LeO.refl _)
   | (with_reducible exact LeO.none _)
   | (with_reducible refine LeO.ite ?_ ?_)
   | (with_reducible refine LeO.bind ?_ (fun _ => ?_))
   | exact ih0 _ _ _ _ _ _ _
   | exact ih1 _ _ _ _
   | exact impl_tell.mono _ _ _ _ _ _ _
   | exact impl_untold.mono _ _ _ _ _ _
   | exact LeO.none _
   | refine LeO.ite ?_ ?_
   | refine LeO.bind ?_ (fun _ => ?_)
set_option maxHeartbeats 8000000 in
set_option maxRecDepth 100000 in
theorem impl_leftOf.calls (k : Nat) (a0_0 : Int) (a0_1 : Int) (a0_2 : Int) (a0_3 : Int) (A0_4 : Option Addr) (c0_4 : Nat) (l0_4 : List (S74)) (A1 : Option Addr) (c1 : Nat) (l1 : List (S86)) (r1 : List (List Int)) (r2 : Bool) (w : World) (hr0_4 : Kd.C k74 w A0_4 l0_4.length l0_4) (hc0_4 : l0_4.length ≤ c0_4) (hr1 : Kd.C k86 w A1 l1.length l1) (hc1 : l1.length ≤ c1) (h : impl_leftOf.f k a0_0 a0_1 a0_2 a0_3 l0_4 l1 = some (r1, r2)) :
  Calls Try.prog 55 #[.agg #[.int .i64 a0_0, .int .i64 a0_1, .int .i64 a0_2, .int .i64 a0_3, .slice A0_4 l0_4.length c0_4], .slice A1 l1.length c1] w fun e w' => ∃ v0_ : Value, e = .returned (.tuple #[v0_, .bool r2]) ∧ Kd.S (Kd.slice 3 (Kd.int .i64)) 55 w' w.heap.size (fun _ => True) v0_ r1 ∧ Below w.heap.size w w' := by
 have hu37 := Try.underlying37
 have hu86 := Try.underlying86
 have hmf : ∀ (fn : Fn) (first cap : Array Value) (w : World), (Instr.makeFunc fn first cap).run Try.prog w = .ok (.func fn first cap) w := fun _ _ _ _ => rfl
 have HR0_4 := aM hr0_4
 have HC0_4 := aM hc0_4
 clear hr0_4 hc0_4
 have HR1 := aM hr1
 have HC1 := aM hc1
 clear hr1 hc1
 have HB := aM (Below.refl w.heap.size w)
 have H : (if (l1.length : Int) > 40 then (impl_leftOf.j0 k l1 true a0_0 a0_1 a0_2 a0_3 l0_4) else ((impl_leftOf_1.f l1 a0_0 a0_1 a0_2 a0_3 l0_4).bind fun t448 => (impl_leftOf.j0 k l1 t448 a0_0 a0_1 a0_2 a0_3 l0_4))) = some (r1, r2) := h
 clear h
 have HC3 := aM H
 clear H
 go_enter Try.func55, Try.ntmps55
 go_upto_region 1 with (first | ((with_reducible refine gate_dst (N := 2) rfl ?_); refine box_event ?hg (N := 2) ?hd (cs := #[.int .i64 a0_0, .int .i64 a0_1, .int .i64 a0_2, .int .i64 a0_3, .slice A0_4 l0_4.length c0_4]) (t := 37) ?hr ?_; (case hd => rfl); (case hg => rfl); (case hr => first | (go_simp; done) | (go_simp; rfl)); intro gb447 hg w4 hbox hb; have BK447 := aM hbox; have GW447 := aM (zG hg : w.heap.size ≤ gb447); have GE447 := aM (zG hg : w.heap.size ≤ gb447); replace HB := cH HB hb; clear hb hbox hg))
 (try simp only [Act.put, List.setIfInBounds_toArray, List.set_cons_zero, List.set_cons_succ])
 go_cut [16] (fun v16 wc => ∃ (kq : Nat) (x16_2 : Bool), v16 = .bool x16_2 ∧ Aside0 (impl_leftOf.j0 kq l1 x16_2 a0_0 a0_1 a0_2 a0_3 l0_4 = some (r1, r2)) ∧ Aside0 (kq ≤ k) ∧ Aside0 (wc.heap[gb447]? = some (.cells #[.int .i64 a0_0, .int .i64 a0_1, .int .i64 a0_2, .int .i64 a0_3, (.slice A0_4 l0_4.length c0_4)] 37 (0, 0))) ∧ Aside0 (Below w.heap.size w wc))
 case first =>
  have H := HC3.out
  clear HC3
  by_cases c5 : (l1.length : Int) > 40
  ·rw [if_pos c5] at H
   have c5b0 : decide (40 < (l1.length : Int)) = true := decide_eq_true c5
   have c5b1 : decide (40 < l1.length) = true := decide_eq_true (by omega)
   clear c5
   (first | rw [c5b0] | (simp only [i64_w, i32_w]; rw [c5b0]) | skip)
   have H' := aM H
   clear H
   go_wp2
   go_meet
   case rel => exact ⟨_, (true), zS, H', zO, ⟨zK BK447⟩, ⟨zH⟩⟩
  ·rw [if_neg c5] at H
   have c5b0 : decide (40 < (l1.length : Int)) = false := decide_eq_false c5
   have c5b1 : decide (40 < l1.length) = false := decide_eq_false (by omega)
   clear c5
   (first | rw [c5b0] | (simp only [i64_w, i32_w]; rw [c5b0]) | skip)
   obtain ⟨t448, A6, H⟩ := oH H
   have H' := aM H
   clear H
   go_wp2_with (first | (go_at_call 69; (with_reducible refine (impl_leftOf_1.calls _ _ l1 gb447 a0_0 a0_1 a0_2 a0_3 A0_4 c0_4 l0_4 t448 _ ?side1 ?side2 ?side3 ?side4 ?side5 A6.out).mono ?_); (case side1 => exact zC (Kd.C_below HR1.out HB.out)); (case side2 => exact HC1.out); (case side3 => exact zC (Kd.C_below HR0_4.out HB.out)); (case side4 => exact HC0_4.out); (case side5 => exact (zK BK447)); rintro e w7 ⟨rfl, hb⟩; replace BK447 := cB BK447 hb; replace HB := cH HB hb; (try clear hb)))
   go_meet
   case rel => exact ⟨_, (t448), zS, H', zO, ⟨zK BK447⟩, ⟨zH⟩⟩
 case rest =>
  clear HC3
  try clear c1
  obtain ⟨kq, x16_2, rfl, HA, HJ2, BK447, HB⟩ := hcut
  cases kq with
  | zero => exact absurd HA.out (by simp [impl_leftOf.j0])
  | succ kj2 =>
   have H := HA.out
   clear HA
   simp only [impl_leftOf.j0] at H
   by_cases c8 : x16_2 = true
   ·subst c8
    replace H := iT H
    simp only [Option.some.injEq, Prod.mk.injEq] at H
    obtain ⟨rfl, rfl⟩ := H
    go_wp2
    go_ret2
    exact ⟨_, zR, by first | exact Kd.S_nil _ _ _ _ _ | exact Kd.N_nil _ _ _ _ _ | exact Kd.V_nil _ _ _ _ _ | exact Kd.Q_nil _ _ _ _ _ | exact Kd.R_nil _ _ _ _ _, zH⟩
   ·replace c8 := Bool.eq_false_iff.mpr c8
    subst c8
    replace H := iF H
    obtain ⟨t449, A9, H⟩ := oH H
    have H' := aM H
    clear H
    obtain ⟨hcz10_0, hcz10_1, hcz10_2, hcz10_3, hcz10_4⟩ := kk5 BK447
    go_wp2_with (first | (go_at_call 72; (with_reducible refine (impl_untold.calls kj2 a0_0 a0_1 a0_2 a0_3 _ _ l0_4 t449 _ ?side1 ?side2 A9.out).mono ?_); (case side1 => exact zC (Kd.C_below HR0_4.out HB.out)); (case side2 => exact HC0_4.out); rintro e w11 ⟨v450, rfl, ho0, hb⟩; have HO451 := aM (Kd.S_lower ho0 (below_size zH)); replace BK447 := cB BK447 hb; replace HB := cH HB hb; (try clear hb); (try clear ho0)))
    go_loopg [21] kj2 (fun kq v21 w' => ∃ (x6_2 : List (List Int)) (x21_2 : Int), v21 = .int .i64 x21_2 ∧ Aside0 (impl_leftOf.l0 kq x6_2 l1 (l1.length : Int) x21_2 = some (r1, r2)) ∧ Aside0 (kq ≤ kj2) ∧ Aside0 (Kd.S (Kd.slice 3 (Kd.int .i64)) 55 w' w.heap.size (fun _ => True) v450 x6_2) ∧ Aside0 (w'.heap[gb447]? = some (.cells #[.int .i64 a0_0, .int .i64 a0_1, .int .i64 a0_2, .int .i64 a0_3, (.slice A0_4 l0_4.length c0_4)] 37 (0, 0))) ∧ Aside0 (Below w.heap.size w w'))
    case atStart => exact ⟨(t449), (0), zS, H', ⟨Nat.le_refl _⟩, ⟨by (with_reducible repeat (first | apply Kd.S_alloc | apply Kd.S_drewN | apply Kd.S_drew)); exact HO451.out⟩, ⟨zK BK447⟩, ⟨zH⟩⟩
    case round =>
     clear H'
     (try clear c8); (try clear hcz10_0); (try clear hcz10_1); (try clear hcz10_2); (try clear hcz10_3); (try clear hcz10_4)
     obtain ⟨x6_2, x21_2, rfl, HA, HK2, HO_6, BK447, HB⟩ := hrel
     cases gk with
     | zero => exact absurd HA.out (by simp [impl_leftOf.l0])
     | succ k2 =>
      have H := HA.out
      clear HA
      simp only [impl_leftOf.l0] at H
      by_cases c12 : x21_2 < (l1.length : Int)
      ·rw [if_pos c12] at H
       have c12b0 : decide (x21_2 < (l1.length : Int)) = true := decide_eq_true c12
       clear c12
       by_cases c13 : 0 ≤ x21_2
       ·rw [if_pos c13] at H
        have c13b0 : decide (0 ≤ x21_2) = true := decide_eq_true c13
        clear c13
        by_cases c14 : x21_2 < (l1.length : Int)
        ·rw [if_pos c14] at H
         have c14b0 : decide (x21_2 < (l1.length : Int)) = true := decide_eq_true c14
         clear c14
         replace H := oB H
         obtain ⟨⟨t454, t455⟩, A150, H⟩ := H
         replace H : (if t454 = true then (impl_leftOf.l0 k2 t455 l1 (l1.length : Int) (wrap64 (x21_2 + 1))) else (some (([] : List (List Int)), false))) = some (r1, r2) := H
         have A15 := aM A150
         clear A150
         by_cases c16 : t454 = true
         ·subst c16
          replace H := iT H
          have H' := aM H
          clear H
          have p452 : 0 ≤ (x21_2 : Int) := zA
          have q452 : x21_2 < (l1.length : Int) := zA
          obtain ⟨ad452, A452_0, c452_0, e452, hx452_0, hx452_1, hx452_2, hx452_3, hx452_4, hl452_0, hi452_0⟩ := at_T86 HR1.out x21_2 p452 q452
          cases e452
          replace hx452_0 := hX HB hx452_0
          replace hx452_1 := hX HB hx452_1
          replace hx452_2 := hX HB hx452_2
          replace hx452_3 := hX HB hx452_3
          replace hx452_4 := hX HB hx452_4
          have HR452_0 := aM hi452_0
          have HC452_0 := aM hl452_0
          clear hi452_0 hl452_0
          replace p452 := eq_true p452
          replace q452 := eq_true q452
          go_wp2_with (first | ((with_reducible refine gate_dst (N := 8) rfl ?_); refine box_event ?hg (N := 8) ?hd (cs := #[.slice none 0 0, .int .i64 0, .int .i64 0, .int .i64 0, .int .i64 0]) (t := 86) ?hr ?_; (case hd => rfl); (case hg => rfl); (case hr => first | (go_simp; done) | (go_simp; rfl)); intro gb453 hg w17 hbox hb; replace HO_6 := aM (Kd.S_below (by (with_reducible repeat (first | apply Kd.S_alloc | apply Kd.S_drewN | apply Kd.S_drew)); exact HO_6.out) hb); have BK453 := aM hbox; have GW453 := aM (zG hg : w.heap.size ≤ gb453); have GE453 := aM (zG hg : w.heap.size ≤ gb453); replace HB := cH HB hb; have NB447_453 := aM ((zL hg BK447)); have NB453_447 := aM ((zM hg BK447)); replace BK447 := cB BK447 hb; clear hb hbox hg; have hnb18 := NB453_447.out; have hnc18 := NB447_453.out; obtain ⟨hcz19_0, hcz19_1, hcz19_2, hcz19_3, hcz19_4⟩ := kk5 BK453; obtain ⟨hfz19_0, hfz19_1, hfz19_2, hfz19_3, hfz19_4⟩ := kg5 BK453) | ((with_reducible refine gate_store (t := 86) (p := 8) rfl ?_); refine store_event (t := 86) (p := 8) (v := ?vo_w20) (w1 := (((((w17.setCell ⟨gb453, 0, none⟩ (.slice A452_0 ((rd_T86 l1 x21_2).f0).length c452_0)).setCell ⟨gb453, 1, none⟩ (.int .i64 ((rd_T86 l1 x21_2).f1))).setCell ⟨gb453, 2, none⟩ (.int .i64 ((rd_T86 l1 x21_2).f2))).setCell ⟨gb453, 3, none⟩ (.int .i64 ((rd_T86 l1 x21_2).f3))).setCell ⟨gb453, 4, none⟩ (.int .i64 ((rd_T86 l1 x21_2).f4)))) ?hg ?ho ?hn ?hr ?_; (case ho => rfl); (case hg => rfl); (case hn => rfl); (case hr => first | (go_simp; done) | (go_simp; rfl)); intro w20 hw; have n0_ : Aside0 (Kd.S (Kd.slice 3 (Kd.int .i64)) 55 w20 w.heap.size (fun _ => True) v450 x6_2) := ⟨(by rw [hw]; exact (by (with_reducible repeat (first | apply Kd.S_alloc | apply Kd.S_drewN | apply Kd.S_drew)); exact Kd.S_mono (Kd.S_far (p := ⟨gb453, 4, none⟩) (Kd.S_far (p := ⟨gb453, 3, none⟩) (Kd.S_far (p := ⟨gb453, 2, none⟩) (Kd.S_far (p := ⟨gb453, 1, none⟩) (Kd.S_far (p := ⟨gb453, 0, none⟩) (Kd.S_types HO_6.out BK453.out (by decide)) (fun _ hk => hk.2) (.slice A452_0 ((rd_T86 l1 x21_2).f0).length c452_0)) (fun _ hk => hk.2) (.int .i64 ((rd_T86 l1 x21_2).f1))) (fun _ hk => hk.2) (.int .i64 ((rd_T86 l1 x21_2).f2))) (fun _ hk => hk.2) (.int .i64 ((rd_T86 l1 x21_2).f3))) (fun _ hk => hk.2) (.int .i64 ((rd_T86 l1 x21_2).f4))) (fun _ hk => trivial)))⟩; have n1_ : Aside0 (w20.heap[gb447]? = some (.cells #[.int .i64 a0_0, .int .i64 a0_1, .int .i64 a0_2, .int .i64 a0_3, .slice A0_4 l0_4.length c0_4] 37 (0, 0))) := ⟨(by rw [hw]; exact (by (with_reducible repeat (first | apply kN | apply kD | apply kA)); refine blk_far ?_ NB447_453.out _; (with_reducible repeat (first | apply kN | apply kD | apply kA)); refine blk_far ?_ NB447_453.out _; (with_reducible repeat (first | apply kN | apply kD | apply kA)); refine blk_far ?_ NB447_453.out _; (with_reducible repeat (first | apply kN | apply kD | apply kA)); refine blk_far ?_ NB447_453.out _; (with_reducible repeat (first | apply kN | apply kD | apply kA)); refine blk_far ?_ NB447_453.out _; (with_reducible repeat (first | apply kN | apply kD | apply kA)); exact BK447.out))⟩; have n2_ : Aside0 (w20.heap[gb453]? = some (.cells #[.slice A452_0 ((rd_T86 l1 x21_2).f0).length c452_0, .int .i64 ((rd_T86 l1 x21_2).f1), .int .i64 ((rd_T86 l1 x21_2).f2), .int .i64 ((rd_T86 l1 x21_2).f3), .int .i64 ((rd_T86 l1 x21_2).f4)] 86 (0, 0))) := ⟨(by rw [hw]; exact (by (with_reducible repeat (first | apply kN | apply kD | apply kA)); refine blk_put (cs := #[.slice A452_0 ((rd_T86 l1 x21_2).f0).length c452_0, .int .i64 ((rd_T86 l1 x21_2).f1), .int .i64 ((rd_T86 l1 x21_2).f2), .int .i64 ((rd_T86 l1 x21_2).f3), .int .i64 0]) ?_ 4 _ rfl; (with_reducible repeat (first | apply kN | apply kD | apply kA)); refine blk_put (cs := #[.slice A452_0 ((rd_T86 l1 x21_2).f0).length c452_0, .int .i64 ((rd_T86 l1 x21_2).f1), .int .i64 ((rd_T86 l1 x21_2).f2), .int .i64 0, .int .i64 0]) ?_ 3 _ rfl; (with_reducible repeat (first | apply kN | apply kD | apply kA)); refine blk_put (cs := #[.slice A452_0 ((rd_T86 l1 x21_2).f0).length c452_0, .int .i64 ((rd_T86 l1 x21_2).f1), .int .i64 0, .int .i64 0, .int .i64 0]) ?_ 2 _ rfl; (with_reducible repeat (first | apply kN | apply kD | apply kA)); refine blk_put (cs := #[.slice A452_0 ((rd_T86 l1 x21_2).f0).length c452_0, .int .i64 0, .int .i64 0, .int .i64 0, .int .i64 0]) ?_ 1 _ rfl; (with_reducible repeat (first | apply kN | apply kD | apply kA)); refine blk_put (cs := #[.slice none 0 0, .int .i64 0, .int .i64 0, .int .i64 0, .int .i64 0]) ?_ 0 _ rfl; (with_reducible repeat (first | apply kN | apply kD | apply kA)); exact BK453.out))⟩; have n3_ : Aside0 (Below w.heap.size w w20) := ⟨(by rw [hw]; exact zH)⟩; clear hw; clear HO_6; clear BK447; clear BK453; clear HB; have HO_6 := n0_; have BK447 := n1_; have BK453 := n2_; have HB := n3_; clear n0_ n1_ n2_ n3_; obtain ⟨hcz21_0, hcz21_1, hcz21_2, hcz21_3, hcz21_4⟩ := kk5 BK453; obtain ⟨hfz21_0, hfz21_1, hfz21_2, hfz21_3, hfz21_4⟩ := kg5 BK453; obtain ⟨Ao22, co22, eo22⟩ := Kd.S_slice HO_6.out; subst eo22) | (go_at_call 73; (refine (impl_tell.calls k2 _ (.slice Ao22 x6_2.length co22) x6_2 _ _ ((rd_T86 l1 x21_2).f0) ((rd_T86 l1 x21_2).f1) ((rd_T86 l1 x21_2).f2) ((rd_T86 l1 x21_2).f3) ((rd_T86 l1 x21_2).f4) true t455 w _ ?side1 (by first | exact Kd.S_bound HO_6.out | exact Kd.S_drewN (Kd.S_bound HO_6.out) _) ?side3 ?side4 A15.out).mono ?_); (case side1 => repeat (first | (with_reducible first | exact HB.out | apply bA | apply bN | apply b1 | refine bS ?_ GE447.out | refine bS ?_ GE453.out) | exact HB.out)); (case side3 => exact Kd.C_kept_came (Kd.heap_int .i64) HR452_0.out zH (fun k_ hs_ => hs_.2.1)); (case side4 => exact HC452_0.out); rintro e w23 ⟨rfl, hy0, hb, hkp⟩; have n0_ := aM (S_handed hy0 (by first | exact fun _ _ => trivial)); ((first | (with_reducible have hq_ := blk_kept (kN BK447.out _) hkp) | (with_reducible have hq_ := blk_kept BK447.out hkp)); have n1_ := aM (hq_ (fun hs_ => blkNo (zK BK447) hs_.2.2.2 (by decide))); clear hq_); ((first | (with_reducible have hq_ := blk_kept (kN BK453.out _) hkp) | (with_reducible have hq_ := blk_kept BK453.out hkp)); have n2_ := aM (hq_ (fun hs_ => blkNo (zK BK453) hs_.2.2.2 (by decide))); clear hq_); have n3_ := aM (hb); clear HO_6; clear BK447; clear BK453; clear HB; have HO_6 := n0_; have BK447 := n1_; have BK453 := n2_; have HB := n3_; clear n0_ n1_ n2_ n3_; (try clear hb); (try clear hkp); (try clear hy0)))
          go_roundg k2
          case measure => have := HJ2.out; have := HK2.out; omega
          case rel => exact ⟨(t455), (wrap64 (x21_2 + 1)), zS, H', ⟨by have := HJ2.out; have := HK2.out; omega⟩, ⟨by (with_reducible repeat (first | apply Kd.S_alloc | apply Kd.S_drewN | apply Kd.S_drew)); exact HO_6.out⟩, ⟨zK BK447⟩, ⟨zH⟩⟩
         ·replace c16 := Bool.eq_false_iff.mpr c16
          subst c16
          replace H := iF H
          simp only [Option.some.injEq, Prod.mk.injEq] at H
          obtain ⟨rfl, rfl⟩ := H
          have p452 : 0 ≤ (x21_2 : Int) := zA
          have q452 : x21_2 < (l1.length : Int) := zA
          obtain ⟨ad452, A452_0, c452_0, e452, hx452_0, hx452_1, hx452_2, hx452_3, hx452_4, hl452_0, hi452_0⟩ := at_T86 HR1.out x21_2 p452 q452
          cases e452
          replace hx452_0 := hX HB hx452_0
          replace hx452_1 := hX HB hx452_1
          replace hx452_2 := hX HB hx452_2
          replace hx452_3 := hX HB hx452_3
          replace hx452_4 := hX HB hx452_4
          have HR452_0 := aM hi452_0
          have HC452_0 := aM hl452_0
          clear hi452_0 hl452_0
          replace p452 := eq_true p452
          replace q452 := eq_true q452
          go_wp2_with (first | ((with_reducible refine gate_dst (N := 8) rfl ?_); refine box_event ?hg (N := 8) ?hd (cs := #[.slice none 0 0, .int .i64 0, .int .i64 0, .int .i64 0, .int .i64 0]) (t := 86) ?hr ?_; (case hd => rfl); (case hg => rfl); (case hr => first | (go_simp; done) | (go_simp; rfl)); intro gb453 hg w24 hbox hb; replace HO_6 := aM (Kd.S_below (by (with_reducible repeat (first | apply Kd.S_alloc | apply Kd.S_drewN | apply Kd.S_drew)); exact HO_6.out) hb); have BK453 := aM hbox; have GW453 := aM (zG hg : w.heap.size ≤ gb453); have GE453 := aM (zG hg : w.heap.size ≤ gb453); replace HB := cH HB hb; have NB447_453 := aM ((zL hg BK447)); have NB453_447 := aM ((zM hg BK447)); replace BK447 := cB BK447 hb; clear hb hbox hg; have hnb25 := NB453_447.out; have hnc25 := NB447_453.out; obtain ⟨hcz26_0, hcz26_1, hcz26_2, hcz26_3, hcz26_4⟩ := kk5 BK453; obtain ⟨hfz26_0, hfz26_1, hfz26_2, hfz26_3, hfz26_4⟩ := kg5 BK453) | ((with_reducible refine gate_store (t := 86) (p := 8) rfl ?_); refine store_event (t := 86) (p := 8) (v := ?vo_w27) (w1 := (((((w24.setCell ⟨gb453, 0, none⟩ (.slice A452_0 ((rd_T86 l1 x21_2).f0).length c452_0)).setCell ⟨gb453, 1, none⟩ (.int .i64 ((rd_T86 l1 x21_2).f1))).setCell ⟨gb453, 2, none⟩ (.int .i64 ((rd_T86 l1 x21_2).f2))).setCell ⟨gb453, 3, none⟩ (.int .i64 ((rd_T86 l1 x21_2).f3))).setCell ⟨gb453, 4, none⟩ (.int .i64 ((rd_T86 l1 x21_2).f4)))) ?hg ?ho ?hn ?hr ?_; (case ho => rfl); (case hg => rfl); (case hn => rfl); (case hr => first | (go_simp; done) | (go_simp; rfl)); intro w27 hw; have n0_ : Aside0 (Kd.S (Kd.slice 3 (Kd.int .i64)) 55 w27 w.heap.size (fun _ => True) v450 x6_2) := ⟨(by rw [hw]; exact (by (with_reducible repeat (first | apply Kd.S_alloc | apply Kd.S_drewN | apply Kd.S_drew)); exact Kd.S_mono (Kd.S_far (p := ⟨gb453, 4, none⟩) (Kd.S_far (p := ⟨gb453, 3, none⟩) (Kd.S_far (p := ⟨gb453, 2, none⟩) (Kd.S_far (p := ⟨gb453, 1, none⟩) (Kd.S_far (p := ⟨gb453, 0, none⟩) (Kd.S_types HO_6.out BK453.out (by decide)) (fun _ hk => hk.2) (.slice A452_0 ((rd_T86 l1 x21_2).f0).length c452_0)) (fun _ hk => hk.2) (.int .i64 ((rd_T86 l1 x21_2).f1))) (fun _ hk => hk.2) (.int .i64 ((rd_T86 l1 x21_2).f2))) (fun _ hk => hk.2) (.int .i64 ((rd_T86 l1 x21_2).f3))) (fun _ hk => hk.2) (.int .i64 ((rd_T86 l1 x21_2).f4))) (fun _ hk => trivial)))⟩; have n1_ : Aside0 (w27.heap[gb447]? = some (.cells #[.int .i64 a0_0, .int .i64 a0_1, .int .i64 a0_2, .int .i64 a0_3, .slice A0_4 l0_4.length c0_4] 37 (0, 0))) := ⟨(by rw [hw]; exact (by (with_reducible repeat (first | apply kN | apply kD | apply kA)); refine blk_far ?_ NB447_453.out _; (with_reducible repeat (first | apply kN | apply kD | apply kA)); refine blk_far ?_ NB447_453.out _; (with_reducible repeat (first | apply kN | apply kD | apply kA)); refine blk_far ?_ NB447_453.out _; (with_reducible repeat (first | apply kN | apply kD | apply kA)); refine blk_far ?_ NB447_453.out _; (with_reducible repeat (first | apply kN | apply kD | apply kA)); refine blk_far ?_ NB447_453.out _; (with_reducible repeat (first | apply kN | apply kD | apply kA)); exact BK447.out))⟩; have n2_ : Aside0 (w27.heap[gb453]? = some (.cells #[.slice A452_0 ((rd_T86 l1 x21_2).f0).length c452_0, .int .i64 ((rd_T86 l1 x21_2).f1), .int .i64 ((rd_T86 l1 x21_2).f2), .int .i64 ((rd_T86 l1 x21_2).f3), .int .i64 ((rd_T86 l1 x21_2).f4)] 86 (0, 0))) := ⟨(by rw [hw]; exact (by (with_reducible repeat (first | apply kN | apply kD | apply kA)); refine blk_put (cs := #[.slice A452_0 ((rd_T86 l1 x21_2).f0).length c452_0, .int .i64 ((rd_T86 l1 x21_2).f1), .int .i64 ((rd_T86 l1 x21_2).f2), .int .i64 ((rd_T86 l1 x21_2).f3), .int .i64 0]) ?_ 4 _ rfl; (with_reducible repeat (first | apply kN | apply kD | apply kA)); refine blk_put (cs := #[.slice A452_0 ((rd_T86 l1 x21_2).f0).length c452_0, .int .i64 ((rd_T86 l1 x21_2).f1), .int .i64 ((rd_T86 l1 x21_2).f2), .int .i64 0, .int .i64 0]) ?_ 3 _ rfl; (with_reducible repeat (first | apply kN | apply kD | apply kA)); refine blk_put (cs := #[.slice A452_0 ((rd_T86 l1 x21_2).f0).length c452_0, .int .i64 ((rd_T86 l1 x21_2).f1), .int .i64 0, .int .i64 0, .int .i64 0]) ?_ 2 _ rfl; (with_reducible repeat (first | apply kN | apply kD | apply kA)); refine blk_put (cs := #[.slice A452_0 ((rd_T86 l1 x21_2).f0).length c452_0, .int .i64 0, .int .i64 0, .int .i64 0, .int .i64 0]) ?_ 1 _ rfl; (with_reducible repeat (first | apply kN | apply kD | apply kA)); refine blk_put (cs := #[.slice none 0 0, .int .i64 0, .int .i64 0, .int .i64 0, .int .i64 0]) ?_ 0 _ rfl; (with_reducible repeat (first | apply kN | apply kD | apply kA)); exact BK453.out))⟩; have n3_ : Aside0 (Below w.heap.size w w27) := ⟨(by rw [hw]; exact zH)⟩; clear hw; clear HO_6; clear BK447; clear BK453; clear HB; have HO_6 := n0_; have BK447 := n1_; have BK453 := n2_; have HB := n3_; clear n0_ n1_ n2_ n3_; obtain ⟨hcz28_0, hcz28_1, hcz28_2, hcz28_3, hcz28_4⟩ := kk5 BK453; obtain ⟨hfz28_0, hfz28_1, hfz28_2, hfz28_3, hfz28_4⟩ := kg5 BK453; obtain ⟨Ao29, co29, eo29⟩ := Kd.S_slice HO_6.out; subst eo29) | (go_at_call 73; (refine (impl_tell.calls k2 _ (.slice Ao29 x6_2.length co29) x6_2 _ _ ((rd_T86 l1 x21_2).f0) ((rd_T86 l1 x21_2).f1) ((rd_T86 l1 x21_2).f2) ((rd_T86 l1 x21_2).f3) ((rd_T86 l1 x21_2).f4) false t455 w _ ?side1 (by first | exact Kd.S_bound HO_6.out | exact Kd.S_drewN (Kd.S_bound HO_6.out) _) ?side3 ?side4 A15.out).mono ?_); (case side1 => repeat (first | (with_reducible first | exact HB.out | apply bA | apply bN | apply b1 | refine bS ?_ GE447.out | refine bS ?_ GE453.out) | exact HB.out)); (case side3 => exact Kd.C_kept_came (Kd.heap_int .i64) HR452_0.out zH (fun k_ hs_ => hs_.2.1)); (case side4 => exact HC452_0.out); rintro e w30 ⟨rfl, hy0, hb, hkp⟩; have n0_ := aM (S_handed hy0 (by first | exact fun _ _ => trivial)); ((first | (with_reducible have hq_ := blk_kept (kN BK447.out _) hkp) | (with_reducible have hq_ := blk_kept BK447.out hkp)); have n1_ := aM (hq_ (fun hs_ => blkNo (zK BK447) hs_.2.2.2 (by decide))); clear hq_); ((first | (with_reducible have hq_ := blk_kept (kN BK453.out _) hkp) | (with_reducible have hq_ := blk_kept BK453.out hkp)); have n2_ := aM (hq_ (fun hs_ => blkNo (zK BK453) hs_.2.2.2 (by decide))); clear hq_); have n3_ := aM (hb); clear HO_6; clear BK447; clear BK453; clear HB; have HO_6 := n0_; have BK447 := n1_; have BK453 := n2_; have HB := n3_; clear n0_ n1_ n2_ n3_; (try clear hb); (try clear hkp); (try clear hy0)))
          go_ret2
          exact ⟨_, zR, by first | exact Kd.S_nil _ _ _ _ _ | exact Kd.N_nil _ _ _ _ _ | exact Kd.V_nil _ _ _ _ _ | exact Kd.Q_nil _ _ _ _ _ | exact Kd.R_nil _ _ _ _ _, zH⟩
        ·rw [if_neg c14] at H
         exact absurd H (by simp)
       ·rw [if_neg c13] at H
        exact absurd H (by simp)
      ·rw [if_neg c12] at H
       have c12b0 : decide (x21_2 < (l1.length : Int)) = false := decide_eq_false c12
       clear c12
       simp only [Option.some.injEq, Prod.mk.injEq] at H
       obtain ⟨rfl, rfl⟩ := H
       go_wp2
       go_ret2
       exact ⟨_, zR, by (with_reducible repeat (first | apply Kd.S_alloc | apply Kd.S_drewN | apply Kd.S_drew)); exact HO_6.out, zH⟩

theorem left_l0 (p w h r : Int) (l : List S74) (hl : l.length ≤ 1048576) (J : List S86) (hJ : J.length ≤ 1048576) (hJx : ∀ s ∈ J, s.f0.length ≤ 1048576) (hok : ∀ s ∈ J, scanB p w h r l s.f0 s.f1 s.f2 s.f3 s.f4 = true) :
    ∀ (d i : Nat) (out : List (List Int)), i + d = J.length → out.length = l.length → rw64 out → Ev (fun q => impl_leftOf.l0 q out J (J.length : Int) i) (lefS (fun s => scanB p w h r l s.f0 s.f1 s.f2 s.f3 s.f4) (J.drop i) out) := by
  intro d
  induction d with
  | zero =>
    intro i out hi ho hr
    rw [List.drop_eq_nil_of_le (by omega), lefS]
    exact Ev.step (fun q => by rw [impl_leftOf.l0]) (evNeg (by omega) (Ev.now _))
  | succ d ih =>
    intro i out hi ho hr
    have hlt : i < J.length := by omega
    refine Ev.step (fun q => by rw [impl_leftOf.l0]) (evPos (by omega) (evPos (by omega) (evPos (by omega) ?_)))
    rw [rdS_nat hlt, List.drop_eq_getElem_cons hlt, lefS]
    have hb := hok _ (List.getElem_mem hlt)
    rw [if_pos hb]
    obtain ⟨hc, h0, hft, ht, hhi⟩ := scan_facts hl hb
    obtain ⟨i1, i2⟩ := telI_inv hl hb ho hr
    refine evBind (tell_f J[i] l.length (hJx _ (List.getElem_mem hlt)) h0 hft ht hc out ho hr) (evIf (fun hk => ?_) (fun hk => ?_))
    · rw [if_pos hk, show (i : Int) + 1 = ((i + 1 : Nat) : Int) from rfl, w64n (by omega)]
      exact ih (i + 1) _ (by omega) i1 i2
    · rw [if_neg hk]
      exact Ev.now _
theorem lefS_bad {ok : S86 → Bool} : ∀ (J : List S86) (out : List (List Int)), (J.any fun s => !(ok s)) = true → lefS ok J out = ([], false)
  | [], out, h => by simp at h
  | s :: J, out, h => by
    rw [lefS]
    rw [List.any_cons, Bool.or_eq_true] at h
    split
    · rename_i hs
      split
      · exact lefS_bad J _ (h.resolve_left (by rw [hs]; simp))
      · rfl
    · rfl
theorem leftOf_f (p w h r : Int) (l : List S74) (hl : l.length ≤ 1048576) (hb : frameB p w h r l = true) (J : List S86) (hJ : J.length ≤ 1048576) (hJx : ∀ s ∈ J, s.f0.length ≤ 1048576) : Ev (fun q => impl_leftOf.f q p w h r l J) (leftI p w h r l J) := by
  unfold impl_leftOf.f leftI
  refine evIf (fun h40 => ?_) (fun h40 => ?_)
  · rw [if_neg (fun hc => hc.2 h40)]
    exact Ev.step (fun q => by rw [impl_leftOf.j0]) (evPos rfl (Ev.now _))
  · rw [if_pos ⟨hb, h40⟩]
    refine evBind (evConst (show impl_leftOf_1.f J p w h r l = some (J.any fun x => !(scanB p w h r l x.f0 x.f1 x.f2 x.f3 x.f4)) from by unfold impl_leftOf_1.f; rw [if_pos ⟨hl, hJx⟩])) ?_
    refine Ev.step (fun q => by rw [impl_leftOf.j0]) (evIf (fun ha => ?_) (fun ha => ?_))
    · rw [lefS_bad (ok := fun s => scanB p w h r l s.f0 s.f1 s.f2 s.f3 s.f4) J _ ha]
      exact Ev.now _
    · refine evBind (untold_f p w h r l hl) ?_
      have hok : ∀ s ∈ J, scanB p w h r l s.f0 s.f1 s.f2 s.f3 s.f4 = true := fun s hs => by
        rw [Bool.not_eq_true, List.any_eq_false] at ha
        have := ha s hs
        simpa using this
      have key := left_l0 p w h r l hl J hJ hJx hok J.length 0 (unt l.length) (by omega) (unt_len _) (unt_64 _)
      rw [List.drop_zero] at key
      exact key

/-! ### impl_isWhole: function 56 -/
def impl_isWhole.f (l0 : List (List Int)) : Option (Bool) := (impl_isWhole_1.f l0).bind fun t456 => (some (!t456))
set_option maxHeartbeats 8000000 in
set_option maxRecDepth 100000 in
theorem impl_isWhole.calls (A0 : Option Addr) (c0 : Nat) (l0 : List (List Int)) (r : Bool) (w : World) (hr0 : Kd.C (Kd.slice 3 (Kd.int .i64)) w A0 l0.length l0) (hc0 : l0.length ≤ c0) (h : impl_isWhole.f l0 = some r) :
  Calls Try.prog 56 #[.slice A0 l0.length c0] w fun e w' => e = .returned (.bool r) ∧ Below w.heap.size w w' := by
 have HR0 := aM hr0
 have HC0 := aM hc0
 clear hr0 hc0
 have HB := aM (Below.refl w.heap.size w)
 have H : ((impl_isWhole_1.f l0).bind fun t456 => (some (!t456))) = some r := h
 clear h
 obtain ⟨t456, A2, H⟩ := oH H
 obtain rfl := Option.some.inj H
 go_enter Try.func56, Try.ntmps56
 go_wp2_with (first | (go_at_call 24; (with_reducible refine (impl_isWhole_1.calls _ _ l0 t456 _ ?side1 ?side2 A2.out).mono ?_); (case side1 => exact zC HR0.out); (case side2 => exact HC0.out); rintro e w3 ⟨rfl, hb⟩; replace HB := cH HB hb; (try clear hb)))
 go_ret
 exact ⟨zR, zH⟩

/-! ### impl_ScriptOk: function 29 -/
def impl_ScriptOk.f (k : Nat) (a0_0 : Int) (a0_1 : Int) (a0_2 : Int) (a0_3 : Int) (l0_4 : List (S74)) (l1 : List (S86)) : Option (Bool) := (impl_FrameOk.f k a0_0 a0_1 a0_2 a0_3 l0_4).bind fun t458 => (if t458 = true then ((impl_leftOf.f k a0_0 a0_1 a0_2 a0_3 l0_4 l1).bind fun bt459 => (if bt459.2 = true then ((impl_isWhole.f bt459.1).bind fun t463 => (some t463)) else (some false))) else (some false))
theorem impl_ScriptOk.mono : ∀ a0 a1 a2 a3 a4 a5 k, LeO (impl_ScriptOk.f k a0 a1 a2 a3 a4 a5) (impl_ScriptOk.f (k + 1) a0 a1 a2 a3 a4 a5) := by
 intro a0 a1 a2 a3 a4 a5 k
 unfold impl_ScriptOk.f
 repeat' first
   | (with_reducible exact impl_FrameOk.mono _ _ _ _ _ _)
   | (with_reducible exact impl_leftOf.mono _ _ _ _ _ _ _)
   | (with_reducible exact LeO.refl _)
   | (with_reducible exact LeO.none _)
   | (with_reducible refine LeO.ite ?_ ?_)
   | (with_reducible refine LeO.bind ?_ (fun _ => ?_))
   | exact impl_FrameOk.mono _ _ _ _ _ _
   | exact impl_leftOf.mono _ _ _ _ _ _ _
   | exact LeO.none _
   | refine LeO.ite ?_ ?_
   | refine LeO.bind ?_ (fun _ => ?_)
set_option maxHeartbeats 8000000 in
set_option maxRecDepth 100000 in
theorem impl_ScriptOk.calls (k : Nat) (a0_0 : Int) (a0_1 : Int) (a0_2 : Int) (a0_3 : Int) (A0_4 : Option Addr) (c0_4 : Nat) (l0_4 : List (S74)) (A1 : Option Addr) (c1 : Nat) (l1 : List (S86)) (r : Bool) (w : World) (hr0_4 : Kd.C k74 w A0_4 l0_4.length l0_4) (hc0_4 : l0_4.length ≤ c0_4) (hr1 : Kd.C k86 w A1 l1.length l1) (hc1 : l1.length ≤ c1) (h : impl_ScriptOk.f k a0_0 a0_1 a0_2 a0_3 l0_4 l1 = some r) :
  Calls Try.prog 29 #[.agg #[.int .i64 a0_0, .int .i64 a0_1, .int .i64 a0_2, .int .i64 a0_3, .slice A0_4 l0_4.length c0_4], .slice A1 l1.length c1] w fun e w' => e = .returned (.bool r) ∧ Below w.heap.size w w' := by
 have hu37 := Try.underlying37
 have HR0_4 := aM hr0_4
 have HC0_4 := aM hc0_4
 clear hr0_4 hc0_4
 have HR1 := aM hr1
 have HC1 := aM hc1
 clear hr1 hc1
 have HB := aM (Below.refl w.heap.size w)
 have H : ((impl_FrameOk.f k a0_0 a0_1 a0_2 a0_3 l0_4).bind fun t458 => (if t458 = true then ((impl_leftOf.f k a0_0 a0_1 a0_2 a0_3 l0_4 l1).bind fun bt459 => (if bt459.2 = true then ((impl_isWhole.f bt459.1).bind fun t463 => (some t463)) else (some false))) else (some false))) = some r := h
 clear h
 obtain ⟨t458, A3, H⟩ := oH H
 by_cases c4 : t458 = true
 ·subst c4
  replace H := iT H
  replace H := oB H
  obtain ⟨⟨t459, t462⟩, A50, H⟩ := H
  replace H : (if t462 = true then ((impl_isWhole.f t459).bind fun t463 => (some t463)) else (some false)) = some r := H
  have A5 := aM A50
  clear A50
  by_cases c6 : t462 = true
  ·subst c6
   replace H := iT H
   obtain ⟨t463, A7, H⟩ := oH H
   obtain rfl := Option.some.inj H
   go_enter Try.func29, Try.ntmps29
   go_wp2_with (first | ((with_reducible refine gate_dst (N := 2) rfl ?_); refine box_event ?hg (N := 2) ?hd (cs := #[.int .i64 a0_0, .int .i64 a0_1, .int .i64 a0_2, .int .i64 a0_3, .slice A0_4 l0_4.length c0_4]) (t := 37) ?hr ?_; (case hd => rfl); (case hg => rfl); (case hr => first | (go_simp; done) | (go_simp; rfl)); intro gb457 hg w8 hbox hb; have BK457 := aM hbox; have GW457 := aM (zG hg : w.heap.size ≤ gb457); have GE457 := aM (zG hg : w.heap.size ≤ gb457); replace HB := cH HB hb; clear hb hbox hg; obtain ⟨hcz9_0, hcz9_1, hcz9_2, hcz9_3, hcz9_4⟩ := kk5 BK457; obtain ⟨hfz9_0, hfz9_1, hfz9_2, hfz9_3, hfz9_4⟩ := kg5 BK457) | (go_at_call 51; (with_reducible refine (impl_FrameOk.calls k a0_0 a0_1 a0_2 a0_3 _ _ l0_4 true _ ?side1 ?side2 A3.out).mono ?_); (case side1 => exact zC (Kd.C_below HR0_4.out HB.out)); (case side2 => exact HC0_4.out); rintro e w10 ⟨rfl, hb⟩; replace BK457 := cB BK457 hb; replace HB := cH HB hb; (try clear hb); obtain ⟨hcz11_0, hcz11_1, hcz11_2, hcz11_3, hcz11_4⟩ := kk5 BK457; obtain ⟨hfz11_0, hfz11_1, hfz11_2, hfz11_3, hfz11_4⟩ := kg5 BK457) | (go_at_call 55; (with_reducible refine (impl_leftOf.calls k a0_0 a0_1 a0_2 a0_3 _ _ l0_4 _ _ l1 t459 true _ ?side1 ?side2 ?side3 ?side4 A5.out).mono ?_); (case side1 => exact zC (Kd.C_below HR0_4.out HB.out)); (case side2 => exact HC0_4.out); (case side3 => exact zC (Kd.C_below HR1.out HB.out)); (case side4 => exact HC1.out); rintro e w12 ⟨v460, rfl, ho0, hb⟩; have HO461 := aM (Kd.S_lower ho0 (below_size zH)); replace BK457 := cB BK457 hb; replace HB := cH HB hb; (try clear hb); (try clear ho0); obtain ⟨Ao13, co13, eo13⟩ := Kd.S_slice HO461.out; subst eo13) | (go_at_call 56; (with_reducible refine (impl_isWhole.calls _ _ t459 t463 _ ?side1 ?side2 A7.out).mono ?_); (case side1 => exact zC (Kd.S_reads' HO461.out).2.2); (case side2 => exact (Kd.S_reads' HO461.out).2.1); rintro e w14 ⟨rfl, hb⟩; replace HO461 := aM (Kd.S_below (by (with_reducible repeat (first | apply Kd.S_alloc | apply Kd.S_drewN | apply Kd.S_drew)); exact HO461.out) hb); replace BK457 := cB BK457 hb; replace HB := cH HB hb; (try clear hb)))
   go_ret
   exact ⟨zR, zH⟩
  ·replace c6 := Bool.eq_false_iff.mpr c6
   subst c6
   replace H := iF H
   obtain rfl := Option.some.inj H
   go_enter Try.func29, Try.ntmps29
   go_wp2_with (first | ((with_reducible refine gate_dst (N := 2) rfl ?_); refine box_event ?hg (N := 2) ?hd (cs := #[.int .i64 a0_0, .int .i64 a0_1, .int .i64 a0_2, .int .i64 a0_3, .slice A0_4 l0_4.length c0_4]) (t := 37) ?hr ?_; (case hd => rfl); (case hg => rfl); (case hr => first | (go_simp; done) | (go_simp; rfl)); intro gb457 hg w15 hbox hb; have BK457 := aM hbox; have GW457 := aM (zG hg : w.heap.size ≤ gb457); have GE457 := aM (zG hg : w.heap.size ≤ gb457); replace HB := cH HB hb; clear hb hbox hg; obtain ⟨hcz16_0, hcz16_1, hcz16_2, hcz16_3, hcz16_4⟩ := kk5 BK457; obtain ⟨hfz16_0, hfz16_1, hfz16_2, hfz16_3, hfz16_4⟩ := kg5 BK457) | (go_at_call 51; (with_reducible refine (impl_FrameOk.calls k a0_0 a0_1 a0_2 a0_3 _ _ l0_4 true _ ?side1 ?side2 A3.out).mono ?_); (case side1 => exact zC (Kd.C_below HR0_4.out HB.out)); (case side2 => exact HC0_4.out); rintro e w17 ⟨rfl, hb⟩; replace BK457 := cB BK457 hb; replace HB := cH HB hb; (try clear hb); obtain ⟨hcz18_0, hcz18_1, hcz18_2, hcz18_3, hcz18_4⟩ := kk5 BK457; obtain ⟨hfz18_0, hfz18_1, hfz18_2, hfz18_3, hfz18_4⟩ := kg5 BK457) | (go_at_call 55; (with_reducible refine (impl_leftOf.calls k a0_0 a0_1 a0_2 a0_3 _ _ l0_4 _ _ l1 t459 false _ ?side1 ?side2 ?side3 ?side4 A5.out).mono ?_); (case side1 => exact zC (Kd.C_below HR0_4.out HB.out)); (case side2 => exact HC0_4.out); (case side3 => exact zC (Kd.C_below HR1.out HB.out)); (case side4 => exact HC1.out); rintro e w19 ⟨v460, rfl, ho0, hb⟩; have HO461 := aM (Kd.S_lower ho0 (below_size zH)); replace BK457 := cB BK457 hb; replace HB := cH HB hb; (try clear hb); (try clear ho0)))
   go_ret
   exact ⟨zR, zH⟩
 ·replace c4 := Bool.eq_false_iff.mpr c4
  subst c4
  replace H := iF H
  obtain rfl := Option.some.inj H
  go_enter Try.func29, Try.ntmps29
  go_wp2_with (first | ((with_reducible refine gate_dst (N := 2) rfl ?_); refine box_event ?hg (N := 2) ?hd (cs := #[.int .i64 a0_0, .int .i64 a0_1, .int .i64 a0_2, .int .i64 a0_3, .slice A0_4 l0_4.length c0_4]) (t := 37) ?hr ?_; (case hd => rfl); (case hg => rfl); (case hr => first | (go_simp; done) | (go_simp; rfl)); intro gb457 hg w20 hbox hb; have BK457 := aM hbox; have GW457 := aM (zG hg : w.heap.size ≤ gb457); have GE457 := aM (zG hg : w.heap.size ≤ gb457); replace HB := cH HB hb; clear hb hbox hg; obtain ⟨hcz21_0, hcz21_1, hcz21_2, hcz21_3, hcz21_4⟩ := kk5 BK457; obtain ⟨hfz21_0, hfz21_1, hfz21_2, hfz21_3, hfz21_4⟩ := kg5 BK457) | (go_at_call 51; (with_reducible refine (impl_FrameOk.calls k a0_0 a0_1 a0_2 a0_3 _ _ l0_4 false _ ?side1 ?side2 A3.out).mono ?_); (case side1 => exact zC (Kd.C_below HR0_4.out HB.out)); (case side2 => exact HC0_4.out); rintro e w22 ⟨rfl, hb⟩; replace BK457 := cB BK457 hb; replace HB := cH HB hb; (try clear hb)))
  go_ret
  exact ⟨zR, zH⟩

theorem any_not_all {α : Type} (p : α → Bool) : ∀ l : List α, (!(l.any fun x => !(p x))) = l.all p
  | [] => rfl
  | x :: l => by
    rw [List.any_cons, List.all_cons, Bool.not_or, Bool.not_not, any_not_all p l]
theorem iScriptOk_f (J : List S86) (hJ : J.length ≤ 1048576) (hJx : ∀ s ∈ J, s.f0.length ≤ 1048576) (p w h r : Int) (l : List S74) (hl : l.length ≤ 1048576) : Ev (fun q => impl_ScriptOk.f q p w h r l J) (scriptB p w h r l J) := by
  unfold impl_ScriptOk.f scriptB
  refine evBind (iFrameOk_f p w h r l hl) (evIf (fun hb => ?_) (fun hb => ?_))
  · refine evBind (leftOf_f p w h r l hl hb J hJ hJx) (evIf (fun hk => ?_) (fun hk => ?_))
    · rw [hk, Bool.true_and]
      unfold impl_isWhole.f impl_isWhole_1.f
      simp only [Option.bind_some]
      rw [any_not_all]
      exact Ev.now _
    · rw [Bool.eq_false_iff.2 hk, Bool.false_and]
      exact Ev.now _
  · unfold leftI
    rw [if_neg (fun hc => hb hc.1), Bool.false_and]
    exact Ev.now _

/-! ### impl_StreamOk: function 7 -/
def impl_StreamOk.j0 : Nat → Bool → Int → Int → Int → Int → List (S74) → List (List Int) → List (List (List Int)) → Int → List (S86) → List Int → Option (Bool)
  | 0, _, _, _, _, _, _, _, _, _, _, _ => none
  | k + 1, x11, x465000, x465001, x465002, x465003, x465004, x465005, x465006, x465007, x465008, x465009 => if x11 = true then (some false) else ((impl_CoefsOk.f k x465000 x465001 x465002 x465003 x465004 x465006).bind fun t466 => (if t466 = true then ((impl_within.f x465007 0 1).bind fun t467 => (if t467 = true then ((impl_ScriptOk.f k x465000 x465001 x465002 x465003 x465004 x465008).bind fun t468 => (if t468 = true then (some (decide ((x465009.length : Int) ≤ 1000))) else (some false))) else (some false))) else (some false)))
def impl_StreamOk.f (k : Nat) (a0_0 : Int) (a0_1 : Int) (a0_2 : Int) (a0_3 : Int) (l0_4 : List (S74)) (l0_5 : List (List Int)) (l0_6 : List (List (List Int))) (a0_7 : Int) (l0_8 : List (S86)) (l0_9 : List Int) : Option (Bool) := if (l0_5.length : Int) = 4 then ((impl_StreamOk_1.f l0_5).bind fun t465 => (impl_StreamOk.j0 k t465 a0_0 a0_1 a0_2 a0_3 l0_4 l0_5 l0_6 a0_7 l0_8 l0_9)) else (impl_StreamOk.j0 k true a0_0 a0_1 a0_2 a0_3 l0_4 l0_5 l0_6 a0_7 l0_8 l0_9)
theorem impl_StreamOk.mono_l : ∀ k, (∀ y0 y1 y2 y3 y4 y5 y6 y7 y8 y9 y10, LeO (impl_StreamOk.j0 k y0 y1 y2 y3 y4 y5 y6 y7 y8 y9 y10) (impl_StreamOk.j0 (k + 1) y0 y1 y2 y3 y4 y5 y6 y7 y8 y9 y10))
 | 0 => fun _ _ _ _ _ _ _ _ _ _ _ r h => by simp [impl_StreamOk.j0] at h
 | k + 1 => by
  have ih0 := impl_StreamOk.mono_l k
  ·intro y0 y1 y2 y3 y4 y5 y6 y7 y8 y9 y10
   unfold impl_StreamOk.j0
   repeat' first
   | (with_reducible exact ih0 _ _ _ _ _ _ _ _ _ _ _)
   | (with_reducible exact impl_CoefsOk.mono _ _ _ _ _ _ _)
   | (with_reducible exact impl_ScriptOk.mono _ _ _ _ _ _ _)
   | (with_reducible exact LeO.refl _)
   | (with_reducible exact LeO.none _)
   | (with_reducible refine LeO.ite ?_ ?_)
   | (with_reducible refine LeO.bind ?_ (fun _ => ?_))
   | exact ih0 _ _ _ _ _ _ _ _ _ _ _
   | exact impl_CoefsOk.mono _ _ _ _ _ _ _
   | exact impl_ScriptOk.mono _ _ _ _ _ _ _
   | exact LeO.none _
   | refine LeO.ite ?_ ?_
   | refine LeO.bind ?_ (fun _ => ?_)
theorem impl_StreamOk.mono : ∀ a0 a1 a2 a3 a4 a5 a6 a7 a8 a9 k, LeO (impl_StreamOk.f k a0 a1 a2 a3 a4 a5 a6 a7 a8 a9) (impl_StreamOk.f (k + 1) a0 a1 a2 a3 a4 a5 a6 a7 a8 a9) := by
 intro a0 a1 a2 a3 a4 a5 a6 a7 a8 a9 k
 have ih0 := impl_StreamOk.mono_l k
 unfold impl_StreamOk.f
 repeat' first
   | (with_reducible exact ih0 _ _ _ _ _ _ _ _ _ _ _)
   | (with_reducible exact impl_CoefsOk.mono _ _ _ _ _ _ _)
   | (with_reducible exact impl_ScriptOk.mono _ _ _ _ _ _ _)
   | (with_reducible exact LeO.refl _)
   | (with_reducible exact LeO.none _)
   | (with_reducible refine LeO.ite ?_ ?_)
   | (with_reducible refine LeO.bind ?_ (fun _ => ?_))
   | exact ih0 _ _ _ _ _ _ _ _ _ _ _
   | exact impl_CoefsOk.mono _ _ _ _ _ _ _
   | exact impl_ScriptOk.mono _ _ _ _ _ _ _
   | exact LeO.none _
   | refine LeO.ite ?_ ?_
   | refine LeO.bind ?_ (fun _ => ?_)
set_option maxHeartbeats 8000000 in
set_option maxRecDepth 100000 in
theorem impl_StreamOk.calls (k : Nat) (a0_0 : Int) (a0_1 : Int) (a0_2 : Int) (a0_3 : Int) (A0_4 : Option Addr) (c0_4 : Nat) (l0_4 : List (S74)) (A0_5 : Option Addr) (c0_5 : Nat) (l0_5 : List (List Int)) (A0_6 : Option Addr) (c0_6 : Nat) (l0_6 : List (List (List Int))) (a0_7 : Int) (A0_8 : Option Addr) (c0_8 : Nat) (l0_8 : List (S86)) (A0_9 : Option Addr) (c0_9 : Nat) (l0_9 : List Int) (r : Bool) (w : World) (hr0_4 : Kd.C k74 w A0_4 l0_4.length l0_4) (hc0_4 : l0_4.length ≤ c0_4) (hr0_5 : Kd.C (Kd.slice 3 (Kd.int .i64)) w A0_5 l0_5.length l0_5) (hc0_5 : l0_5.length ≤ c0_5) (hr0_6 : Kd.C (Kd.slice 55 (Kd.slice 3 (Kd.int .i64))) w A0_6 l0_6.length l0_6) (hc0_6 : l0_6.length ≤ c0_6) (hr0_8 : Kd.C k86 w A0_8 l0_8.length l0_8) (hc0_8 : l0_8.length ≤ c0_8) (hr0_9 : Kd.C (Kd.int .u8) w A0_9 l0_9.length l0_9) (hc0_9 : l0_9.length ≤ c0_9) (h : impl_StreamOk.f k a0_0 a0_1 a0_2 a0_3 l0_4 l0_5 l0_6 a0_7 l0_8 l0_9 = some r) :
  Calls Try.prog 7 #[.agg #[.int .i64 a0_0, .int .i64 a0_1, .int .i64 a0_2, .int .i64 a0_3, .slice A0_4 l0_4.length c0_4, .slice A0_5 l0_5.length c0_5, .slice A0_6 l0_6.length c0_6, .int .i64 a0_7, .slice A0_8 l0_8.length c0_8, .slice A0_9 l0_9.length c0_9]] w fun e w' => e = .returned (.bool r) ∧ Below w.heap.size w w' := by
 have hu41 := Try.underlying41
 have hu37 := Try.underlying37
 have hu38 := Try.underlying38
 have HR0_4 := aM hr0_4
 have HC0_4 := aM hc0_4
 clear hr0_4 hc0_4
 have HR0_5 := aM hr0_5
 have HC0_5 := aM hc0_5
 clear hr0_5 hc0_5
 have HR0_6 := aM hr0_6
 have HC0_6 := aM hc0_6
 clear hr0_6 hc0_6
 have HR0_8 := aM hr0_8
 have HC0_8 := aM hc0_8
 clear hr0_8 hc0_8
 have HR0_9 := aM hr0_9
 have HC0_9 := aM hc0_9
 clear hr0_9 hc0_9
 have HB := aM (Below.refl w.heap.size w)
 have H : (if (l0_5.length : Int) = 4 then ((impl_StreamOk_1.f l0_5).bind fun t465 => (impl_StreamOk.j0 k t465 a0_0 a0_1 a0_2 a0_3 l0_4 l0_5 l0_6 a0_7 l0_8 l0_9)) else (impl_StreamOk.j0 k true a0_0 a0_1 a0_2 a0_3 l0_4 l0_5 l0_6 a0_7 l0_8 l0_9)) = some r := h
 clear h
 have HC2 := aM H
 clear H
 go_enter Try.func7, Try.ntmps7
 go_upto_region 1 with (first | ((with_reducible refine gate_dst (N := 1) rfl ?_); (try (refine gate_guard (by rfl) ?_; dsimp only)); refine box_event ?hg (N := 1) ?hd (cs := #[.int .i64 a0_0, .int .i64 a0_1, .int .i64 a0_2, .int .i64 a0_3, .slice A0_4 l0_4.length c0_4, .slice A0_5 l0_5.length c0_5, .slice A0_6 l0_6.length c0_6, .int .i64 a0_7, .slice A0_8 l0_8.length c0_8, .slice A0_9 l0_9.length c0_9]) (t := 41) ?hr ?_; (case hd => rfl); (case hg => rfl); (case hr => first | (go_simp; done) | (go_simp; rfl)); intro gb464 hg w3 hbox hb; have BK464 := aM hbox; have GW464 := aM (zG hg : w.heap.size ≤ gb464); have GE464 := aM (zG hg : w.heap.size ≤ gb464); replace HB := cH HB hb; clear hb hbox hg))
 (try simp only [Act.put, List.setIfInBounds_toArray, List.set_cons_zero, List.set_cons_succ])
 go_cut [11] (fun v11 wc => ∃ (kq : Nat) (x11_1 : Bool), v11 = .bool x11_1 ∧ Aside0 (impl_StreamOk.j0 kq x11_1 a0_0 a0_1 a0_2 a0_3 l0_4 l0_5 l0_6 a0_7 l0_8 l0_9 = some r) ∧ Aside0 (kq ≤ k) ∧ Aside0 (wc.heap[gb464]? = some (.cells #[.int .i64 a0_0, .int .i64 a0_1, .int .i64 a0_2, .int .i64 a0_3, (.slice A0_4 l0_4.length c0_4), (.slice A0_5 l0_5.length c0_5), (.slice A0_6 l0_6.length c0_6), .int .i64 a0_7, (.slice A0_8 l0_8.length c0_8), (.slice A0_9 l0_9.length c0_9)] 41 (0, 0))) ∧ Aside0 (Below w.heap.size w wc))
 case first =>
  have H := HC2.out
  clear HC2
  by_cases c4 : (l0_5.length : Int) = 4
  ·rw [if_pos c4] at H
   have c4b0 : ((l0_5.length : Int) == 4) = true := beq_iff_eq.mpr c4
   have c4b1 : ((l0_5.length : Int) != 4) = false := bne_eq_false_iff_eq.mpr c4
   clear c4
   (first | rw [c4b0] | (simp only [i64_w, i32_w]; rw [c4b0]) | skip)
   obtain ⟨t465, A5, H⟩ := oH H
   have H' := aM H
   clear H
   have hcz6_0 : w3.cell? ⟨gb464, 0, none⟩ = some (.int .i64 a0_0) := (kC BK464.out 0).trans rfl
   have hcz6_1 : w3.cell? ⟨gb464, 1, none⟩ = some (.int .i64 a0_1) := (kC BK464.out 1).trans rfl
   have hcz6_2 : w3.cell? ⟨gb464, 2, none⟩ = some (.int .i64 a0_2) := (kC BK464.out 2).trans rfl
   have hcz6_3 : w3.cell? ⟨gb464, 3, none⟩ = some (.int .i64 a0_3) := (kC BK464.out 3).trans rfl
   have hcz6_4 : w3.cell? ⟨gb464, 4, none⟩ = some (.slice A0_4 l0_4.length c0_4) := (kC BK464.out 4).trans rfl
   have hcz6_5 : w3.cell? ⟨gb464, 5, none⟩ = some (.slice A0_5 l0_5.length c0_5) := (kC BK464.out 5).trans rfl
   have hcz6_6 : w3.cell? ⟨gb464, 6, none⟩ = some (.slice A0_6 l0_6.length c0_6) := (kC BK464.out 6).trans rfl
   have hcz6_7 : w3.cell? ⟨gb464, 7, none⟩ = some (.int .i64 a0_7) := (kC BK464.out 7).trans rfl
   have hcz6_8 : w3.cell? ⟨gb464, 8, none⟩ = some (.slice A0_8 l0_8.length c0_8) := (kC BK464.out 8).trans rfl
   have hcz6_9 : w3.cell? ⟨gb464, 9, none⟩ = some (.slice A0_9 l0_9.length c0_9) := (kC BK464.out 9).trans rfl
   go_wp2_with (first | (go_at_call 24; (with_reducible refine (impl_StreamOk_1.calls _ _ l0_5 t465 _ ?side1 ?side2 A5.out).mono ?_); (case side1 => exact zC (Kd.C_below HR0_5.out HB.out)); (case side2 => exact HC0_5.out); rintro e w7 ⟨rfl, hb⟩; replace BK464 := cB BK464 hb; replace HB := cH HB hb; (try clear hb)))
   go_meet
   case rel => exact ⟨_, (t465), zS, H', zO, ⟨zK BK464⟩, ⟨zH⟩⟩
  ·rw [if_neg c4] at H
   have c4b0 : ((l0_5.length : Int) == 4) = false := beq_eq_false_iff_ne.mpr c4
   have c4b1 : ((l0_5.length : Int) != 4) = true := bne_iff_ne.mpr c4
   (first | rw [c4b0] | (simp only [i64_w, i32_w]; rw [c4b0]) | skip)
   have H' := aM H
   clear H
   have hcz8_0 : w3.cell? ⟨gb464, 0, none⟩ = some (.int .i64 a0_0) := (kC BK464.out 0).trans rfl
   have hcz8_1 : w3.cell? ⟨gb464, 1, none⟩ = some (.int .i64 a0_1) := (kC BK464.out 1).trans rfl
   have hcz8_2 : w3.cell? ⟨gb464, 2, none⟩ = some (.int .i64 a0_2) := (kC BK464.out 2).trans rfl
   have hcz8_3 : w3.cell? ⟨gb464, 3, none⟩ = some (.int .i64 a0_3) := (kC BK464.out 3).trans rfl
   have hcz8_4 : w3.cell? ⟨gb464, 4, none⟩ = some (.slice A0_4 l0_4.length c0_4) := (kC BK464.out 4).trans rfl
   have hcz8_5 : w3.cell? ⟨gb464, 5, none⟩ = some (.slice A0_5 l0_5.length c0_5) := (kC BK464.out 5).trans rfl
   have hcz8_6 : w3.cell? ⟨gb464, 6, none⟩ = some (.slice A0_6 l0_6.length c0_6) := (kC BK464.out 6).trans rfl
   have hcz8_7 : w3.cell? ⟨gb464, 7, none⟩ = some (.int .i64 a0_7) := (kC BK464.out 7).trans rfl
   have hcz8_8 : w3.cell? ⟨gb464, 8, none⟩ = some (.slice A0_8 l0_8.length c0_8) := (kC BK464.out 8).trans rfl
   have hcz8_9 : w3.cell? ⟨gb464, 9, none⟩ = some (.slice A0_9 l0_9.length c0_9) := (kC BK464.out 9).trans rfl
   go_wp2
   go_meet
   case rel => exact ⟨_, (true), zS, H', zO, ⟨zK BK464⟩, ⟨zH⟩⟩
 case rest =>
  clear HC2
  obtain ⟨kq, x11_1, rfl, HA, HJ1, BK464, HB⟩ := hcut
  cases kq with
  | zero => exact absurd HA.out (by simp [impl_StreamOk.j0])
  | succ kj1 =>
   have H := HA.out
   clear HA
   simp only [impl_StreamOk.j0] at H
   by_cases c9 : x11_1 = true
   ·subst c9
    replace H := iT H
    obtain rfl := Option.some.inj H
    go_wp2
    go_ret
    exact ⟨zR, zH⟩
   ·replace c9 := Bool.eq_false_iff.mpr c9
    subst c9
    replace H := iF H
    obtain ⟨t466, A10, H⟩ := oH H
    by_cases c11 : t466 = true
    ·subst c11
     replace H := iT H
     obtain ⟨t467, A12, H⟩ := oH H
     by_cases c13 : t467 = true
     ·subst c13
      replace H := iT H
      obtain ⟨t468, A14, H⟩ := oH H
      by_cases c15 : t468 = true
      ·subst c15
       replace H := iT H
       obtain rfl := Option.some.inj H
       have hcz16_0 : wc.cell? ⟨gb464, 0, none⟩ = some (.int .i64 a0_0) := (kC BK464.out 0).trans rfl
       have hcz16_1 : wc.cell? ⟨gb464, 1, none⟩ = some (.int .i64 a0_1) := (kC BK464.out 1).trans rfl
       have hcz16_2 : wc.cell? ⟨gb464, 2, none⟩ = some (.int .i64 a0_2) := (kC BK464.out 2).trans rfl
       have hcz16_3 : wc.cell? ⟨gb464, 3, none⟩ = some (.int .i64 a0_3) := (kC BK464.out 3).trans rfl
       have hcz16_4 : wc.cell? ⟨gb464, 4, none⟩ = some (.slice A0_4 l0_4.length c0_4) := (kC BK464.out 4).trans rfl
       have hcz16_5 : wc.cell? ⟨gb464, 5, none⟩ = some (.slice A0_5 l0_5.length c0_5) := (kC BK464.out 5).trans rfl
       have hcz16_6 : wc.cell? ⟨gb464, 6, none⟩ = some (.slice A0_6 l0_6.length c0_6) := (kC BK464.out 6).trans rfl
       have hcz16_7 : wc.cell? ⟨gb464, 7, none⟩ = some (.int .i64 a0_7) := (kC BK464.out 7).trans rfl
       have hcz16_8 : wc.cell? ⟨gb464, 8, none⟩ = some (.slice A0_8 l0_8.length c0_8) := (kC BK464.out 8).trans rfl
       have hcz16_9 : wc.cell? ⟨gb464, 9, none⟩ = some (.slice A0_9 l0_9.length c0_9) := (kC BK464.out 9).trans rfl
       go_wp2_with (first | (go_at_call 27; (with_reducible refine (impl_CoefsOk.calls kj1 a0_0 a0_1 a0_2 a0_3 _ _ l0_4 _ _ l0_6 true _ ?side1 ?side2 ?side3 ?side4 A10.out).mono ?_); (case side1 => exact zC (Kd.C_below HR0_4.out HB.out)); (case side2 => exact HC0_4.out); (case side3 => exact zC (Kd.C_below HR0_6.out HB.out)); (case side4 => exact HC0_6.out); rintro e w17 ⟨rfl, hb⟩; replace BK464 := cB BK464 hb; replace HB := cH HB hb; (try clear hb); have hcz18_0 : w17.cell? ⟨gb464, 0, none⟩ = some (.int .i64 a0_0) := (kC BK464.out 0).trans rfl; have hcz18_1 : w17.cell? ⟨gb464, 1, none⟩ = some (.int .i64 a0_1) := (kC BK464.out 1).trans rfl; have hcz18_2 : w17.cell? ⟨gb464, 2, none⟩ = some (.int .i64 a0_2) := (kC BK464.out 2).trans rfl; have hcz18_3 : w17.cell? ⟨gb464, 3, none⟩ = some (.int .i64 a0_3) := (kC BK464.out 3).trans rfl; have hcz18_4 : w17.cell? ⟨gb464, 4, none⟩ = some (.slice A0_4 l0_4.length c0_4) := (kC BK464.out 4).trans rfl; have hcz18_5 : w17.cell? ⟨gb464, 5, none⟩ = some (.slice A0_5 l0_5.length c0_5) := (kC BK464.out 5).trans rfl; have hcz18_6 : w17.cell? ⟨gb464, 6, none⟩ = some (.slice A0_6 l0_6.length c0_6) := (kC BK464.out 6).trans rfl; have hcz18_7 : w17.cell? ⟨gb464, 7, none⟩ = some (.int .i64 a0_7) := (kC BK464.out 7).trans rfl; have hcz18_8 : w17.cell? ⟨gb464, 8, none⟩ = some (.slice A0_8 l0_8.length c0_8) := (kC BK464.out 8).trans rfl; have hcz18_9 : w17.cell? ⟨gb464, 9, none⟩ = some (.slice A0_9 l0_9.length c0_9) := (kC BK464.out 9).trans rfl; have hfz18_0 := blk_frozen BK464.out 0; have hfz18_1 := blk_frozen BK464.out 1; have hfz18_2 := blk_frozen BK464.out 2; have hfz18_3 := blk_frozen BK464.out 3; have hfz18_4 := blk_frozen BK464.out 4; have hfz18_5 := blk_frozen BK464.out 5; have hfz18_6 := blk_frozen BK464.out 6; have hfz18_7 := blk_frozen BK464.out 7; have hfz18_8 := blk_frozen BK464.out 8; have hfz18_9 := blk_frozen BK464.out 9) | (go_at_call 28; (with_reducible refine (impl_within.calls a0_7 0 1 true _ A12.out).mono ?_); rintro e w' ⟨rfl, ⟨nd, rfl⟩⟩) | (go_at_call 29; (with_reducible refine (impl_ScriptOk.calls kj1 a0_0 a0_1 a0_2 a0_3 _ _ l0_4 _ _ l0_8 true _ ?side1 ?side2 ?side3 ?side4 A14.out).mono ?_); (case side1 => exact zC (Kd.C_below HR0_4.out zH)); (case side2 => exact HC0_4.out); (case side3 => exact zC (Kd.C_below HR0_8.out zH)); (case side4 => exact HC0_8.out); rintro e w19 ⟨rfl, hb⟩; replace BK464 := cB BK464 hb; replace HB := cH HB hb; (try clear hb); have hcz20_0 : w19.cell? ⟨gb464, 0, none⟩ = some (.int .i64 a0_0) := (kC BK464.out 0).trans rfl; have hcz20_1 : w19.cell? ⟨gb464, 1, none⟩ = some (.int .i64 a0_1) := (kC BK464.out 1).trans rfl; have hcz20_2 : w19.cell? ⟨gb464, 2, none⟩ = some (.int .i64 a0_2) := (kC BK464.out 2).trans rfl; have hcz20_3 : w19.cell? ⟨gb464, 3, none⟩ = some (.int .i64 a0_3) := (kC BK464.out 3).trans rfl; have hcz20_4 : w19.cell? ⟨gb464, 4, none⟩ = some (.slice A0_4 l0_4.length c0_4) := (kC BK464.out 4).trans rfl; have hcz20_5 : w19.cell? ⟨gb464, 5, none⟩ = some (.slice A0_5 l0_5.length c0_5) := (kC BK464.out 5).trans rfl; have hcz20_6 : w19.cell? ⟨gb464, 6, none⟩ = some (.slice A0_6 l0_6.length c0_6) := (kC BK464.out 6).trans rfl; have hcz20_7 : w19.cell? ⟨gb464, 7, none⟩ = some (.int .i64 a0_7) := (kC BK464.out 7).trans rfl; have hcz20_8 : w19.cell? ⟨gb464, 8, none⟩ = some (.slice A0_8 l0_8.length c0_8) := (kC BK464.out 8).trans rfl; have hcz20_9 : w19.cell? ⟨gb464, 9, none⟩ = some (.slice A0_9 l0_9.length c0_9) := (kC BK464.out 9).trans rfl; have hfz20_0 := blk_frozen BK464.out 0; have hfz20_1 := blk_frozen BK464.out 1; have hfz20_2 := blk_frozen BK464.out 2; have hfz20_3 := blk_frozen BK464.out 3; have hfz20_4 := blk_frozen BK464.out 4; have hfz20_5 := blk_frozen BK464.out 5; have hfz20_6 := blk_frozen BK464.out 6; have hfz20_7 := blk_frozen BK464.out 7; have hfz20_8 := blk_frozen BK464.out 8; have hfz20_9 := blk_frozen BK464.out 9))
       go_ret
       exact ⟨zR, zH⟩
      ·replace c15 := Bool.eq_false_iff.mpr c15
       subst c15
       replace H := iF H
       obtain rfl := Option.some.inj H
       have hcz21_0 : wc.cell? ⟨gb464, 0, none⟩ = some (.int .i64 a0_0) := (kC BK464.out 0).trans rfl
       have hcz21_1 : wc.cell? ⟨gb464, 1, none⟩ = some (.int .i64 a0_1) := (kC BK464.out 1).trans rfl
       have hcz21_2 : wc.cell? ⟨gb464, 2, none⟩ = some (.int .i64 a0_2) := (kC BK464.out 2).trans rfl
       have hcz21_3 : wc.cell? ⟨gb464, 3, none⟩ = some (.int .i64 a0_3) := (kC BK464.out 3).trans rfl
       have hcz21_4 : wc.cell? ⟨gb464, 4, none⟩ = some (.slice A0_4 l0_4.length c0_4) := (kC BK464.out 4).trans rfl
       have hcz21_5 : wc.cell? ⟨gb464, 5, none⟩ = some (.slice A0_5 l0_5.length c0_5) := (kC BK464.out 5).trans rfl
       have hcz21_6 : wc.cell? ⟨gb464, 6, none⟩ = some (.slice A0_6 l0_6.length c0_6) := (kC BK464.out 6).trans rfl
       have hcz21_7 : wc.cell? ⟨gb464, 7, none⟩ = some (.int .i64 a0_7) := (kC BK464.out 7).trans rfl
       have hcz21_8 : wc.cell? ⟨gb464, 8, none⟩ = some (.slice A0_8 l0_8.length c0_8) := (kC BK464.out 8).trans rfl
       have hcz21_9 : wc.cell? ⟨gb464, 9, none⟩ = some (.slice A0_9 l0_9.length c0_9) := (kC BK464.out 9).trans rfl
       go_wp2_with (first | (go_at_call 27; (with_reducible refine (impl_CoefsOk.calls kj1 a0_0 a0_1 a0_2 a0_3 _ _ l0_4 _ _ l0_6 true _ ?side1 ?side2 ?side3 ?side4 A10.out).mono ?_); (case side1 => exact zC (Kd.C_below HR0_4.out HB.out)); (case side2 => exact HC0_4.out); (case side3 => exact zC (Kd.C_below HR0_6.out HB.out)); (case side4 => exact HC0_6.out); rintro e w22 ⟨rfl, hb⟩; replace BK464 := cB BK464 hb; replace HB := cH HB hb; (try clear hb); have hcz23_0 : w22.cell? ⟨gb464, 0, none⟩ = some (.int .i64 a0_0) := (kC BK464.out 0).trans rfl; have hcz23_1 : w22.cell? ⟨gb464, 1, none⟩ = some (.int .i64 a0_1) := (kC BK464.out 1).trans rfl; have hcz23_2 : w22.cell? ⟨gb464, 2, none⟩ = some (.int .i64 a0_2) := (kC BK464.out 2).trans rfl; have hcz23_3 : w22.cell? ⟨gb464, 3, none⟩ = some (.int .i64 a0_3) := (kC BK464.out 3).trans rfl; have hcz23_4 : w22.cell? ⟨gb464, 4, none⟩ = some (.slice A0_4 l0_4.length c0_4) := (kC BK464.out 4).trans rfl; have hcz23_5 : w22.cell? ⟨gb464, 5, none⟩ = some (.slice A0_5 l0_5.length c0_5) := (kC BK464.out 5).trans rfl; have hcz23_6 : w22.cell? ⟨gb464, 6, none⟩ = some (.slice A0_6 l0_6.length c0_6) := (kC BK464.out 6).trans rfl; have hcz23_7 : w22.cell? ⟨gb464, 7, none⟩ = some (.int .i64 a0_7) := (kC BK464.out 7).trans rfl; have hcz23_8 : w22.cell? ⟨gb464, 8, none⟩ = some (.slice A0_8 l0_8.length c0_8) := (kC BK464.out 8).trans rfl; have hcz23_9 : w22.cell? ⟨gb464, 9, none⟩ = some (.slice A0_9 l0_9.length c0_9) := (kC BK464.out 9).trans rfl; have hfz23_0 := blk_frozen BK464.out 0; have hfz23_1 := blk_frozen BK464.out 1; have hfz23_2 := blk_frozen BK464.out 2; have hfz23_3 := blk_frozen BK464.out 3; have hfz23_4 := blk_frozen BK464.out 4; have hfz23_5 := blk_frozen BK464.out 5; have hfz23_6 := blk_frozen BK464.out 6; have hfz23_7 := blk_frozen BK464.out 7; have hfz23_8 := blk_frozen BK464.out 8; have hfz23_9 := blk_frozen BK464.out 9) | (go_at_call 28; (with_reducible refine (impl_within.calls a0_7 0 1 true _ A12.out).mono ?_); rintro e w' ⟨rfl, ⟨nd, rfl⟩⟩) | (go_at_call 29; (with_reducible refine (impl_ScriptOk.calls kj1 a0_0 a0_1 a0_2 a0_3 _ _ l0_4 _ _ l0_8 false _ ?side1 ?side2 ?side3 ?side4 A14.out).mono ?_); (case side1 => exact zC (Kd.C_below HR0_4.out zH)); (case side2 => exact HC0_4.out); (case side3 => exact zC (Kd.C_below HR0_8.out zH)); (case side4 => exact HC0_8.out); rintro e w24 ⟨rfl, hb⟩; replace BK464 := cB BK464 hb; replace HB := cH HB hb; (try clear hb)))
       go_ret
       exact ⟨zR, zH⟩
     ·replace c13 := Bool.eq_false_iff.mpr c13
      subst c13
      replace H := iF H
      obtain rfl := Option.some.inj H
      have hcz25_0 : wc.cell? ⟨gb464, 0, none⟩ = some (.int .i64 a0_0) := (kC BK464.out 0).trans rfl
      have hcz25_1 : wc.cell? ⟨gb464, 1, none⟩ = some (.int .i64 a0_1) := (kC BK464.out 1).trans rfl
      have hcz25_2 : wc.cell? ⟨gb464, 2, none⟩ = some (.int .i64 a0_2) := (kC BK464.out 2).trans rfl
      have hcz25_3 : wc.cell? ⟨gb464, 3, none⟩ = some (.int .i64 a0_3) := (kC BK464.out 3).trans rfl
      have hcz25_4 : wc.cell? ⟨gb464, 4, none⟩ = some (.slice A0_4 l0_4.length c0_4) := (kC BK464.out 4).trans rfl
      have hcz25_5 : wc.cell? ⟨gb464, 5, none⟩ = some (.slice A0_5 l0_5.length c0_5) := (kC BK464.out 5).trans rfl
      have hcz25_6 : wc.cell? ⟨gb464, 6, none⟩ = some (.slice A0_6 l0_6.length c0_6) := (kC BK464.out 6).trans rfl
      have hcz25_7 : wc.cell? ⟨gb464, 7, none⟩ = some (.int .i64 a0_7) := (kC BK464.out 7).trans rfl
      have hcz25_8 : wc.cell? ⟨gb464, 8, none⟩ = some (.slice A0_8 l0_8.length c0_8) := (kC BK464.out 8).trans rfl
      have hcz25_9 : wc.cell? ⟨gb464, 9, none⟩ = some (.slice A0_9 l0_9.length c0_9) := (kC BK464.out 9).trans rfl
      go_wp2_with (first | (go_at_call 27; (with_reducible refine (impl_CoefsOk.calls kj1 a0_0 a0_1 a0_2 a0_3 _ _ l0_4 _ _ l0_6 true _ ?side1 ?side2 ?side3 ?side4 A10.out).mono ?_); (case side1 => exact zC (Kd.C_below HR0_4.out HB.out)); (case side2 => exact HC0_4.out); (case side3 => exact zC (Kd.C_below HR0_6.out HB.out)); (case side4 => exact HC0_6.out); rintro e w26 ⟨rfl, hb⟩; replace BK464 := cB BK464 hb; replace HB := cH HB hb; (try clear hb); have hcz27_0 : w26.cell? ⟨gb464, 0, none⟩ = some (.int .i64 a0_0) := (kC BK464.out 0).trans rfl; have hcz27_1 : w26.cell? ⟨gb464, 1, none⟩ = some (.int .i64 a0_1) := (kC BK464.out 1).trans rfl; have hcz27_2 : w26.cell? ⟨gb464, 2, none⟩ = some (.int .i64 a0_2) := (kC BK464.out 2).trans rfl; have hcz27_3 : w26.cell? ⟨gb464, 3, none⟩ = some (.int .i64 a0_3) := (kC BK464.out 3).trans rfl; have hcz27_4 : w26.cell? ⟨gb464, 4, none⟩ = some (.slice A0_4 l0_4.length c0_4) := (kC BK464.out 4).trans rfl; have hcz27_5 : w26.cell? ⟨gb464, 5, none⟩ = some (.slice A0_5 l0_5.length c0_5) := (kC BK464.out 5).trans rfl; have hcz27_6 : w26.cell? ⟨gb464, 6, none⟩ = some (.slice A0_6 l0_6.length c0_6) := (kC BK464.out 6).trans rfl; have hcz27_7 : w26.cell? ⟨gb464, 7, none⟩ = some (.int .i64 a0_7) := (kC BK464.out 7).trans rfl; have hcz27_8 : w26.cell? ⟨gb464, 8, none⟩ = some (.slice A0_8 l0_8.length c0_8) := (kC BK464.out 8).trans rfl; have hcz27_9 : w26.cell? ⟨gb464, 9, none⟩ = some (.slice A0_9 l0_9.length c0_9) := (kC BK464.out 9).trans rfl; have hfz27_0 := blk_frozen BK464.out 0; have hfz27_1 := blk_frozen BK464.out 1; have hfz27_2 := blk_frozen BK464.out 2; have hfz27_3 := blk_frozen BK464.out 3; have hfz27_4 := blk_frozen BK464.out 4; have hfz27_5 := blk_frozen BK464.out 5; have hfz27_6 := blk_frozen BK464.out 6; have hfz27_7 := blk_frozen BK464.out 7; have hfz27_8 := blk_frozen BK464.out 8; have hfz27_9 := blk_frozen BK464.out 9) | (go_at_call 28; (with_reducible refine (impl_within.calls a0_7 0 1 false _ A12.out).mono ?_); rintro e w' ⟨rfl, ⟨nd, rfl⟩⟩))
      go_ret
      exact ⟨zR, zH⟩
    ·replace c11 := Bool.eq_false_iff.mpr c11
     subst c11
     replace H := iF H
     obtain rfl := Option.some.inj H
     have hcz28_0 : wc.cell? ⟨gb464, 0, none⟩ = some (.int .i64 a0_0) := (kC BK464.out 0).trans rfl
     have hcz28_1 : wc.cell? ⟨gb464, 1, none⟩ = some (.int .i64 a0_1) := (kC BK464.out 1).trans rfl
     have hcz28_2 : wc.cell? ⟨gb464, 2, none⟩ = some (.int .i64 a0_2) := (kC BK464.out 2).trans rfl
     have hcz28_3 : wc.cell? ⟨gb464, 3, none⟩ = some (.int .i64 a0_3) := (kC BK464.out 3).trans rfl
     have hcz28_4 : wc.cell? ⟨gb464, 4, none⟩ = some (.slice A0_4 l0_4.length c0_4) := (kC BK464.out 4).trans rfl
     have hcz28_5 : wc.cell? ⟨gb464, 5, none⟩ = some (.slice A0_5 l0_5.length c0_5) := (kC BK464.out 5).trans rfl
     have hcz28_6 : wc.cell? ⟨gb464, 6, none⟩ = some (.slice A0_6 l0_6.length c0_6) := (kC BK464.out 6).trans rfl
     have hcz28_7 : wc.cell? ⟨gb464, 7, none⟩ = some (.int .i64 a0_7) := (kC BK464.out 7).trans rfl
     have hcz28_8 : wc.cell? ⟨gb464, 8, none⟩ = some (.slice A0_8 l0_8.length c0_8) := (kC BK464.out 8).trans rfl
     have hcz28_9 : wc.cell? ⟨gb464, 9, none⟩ = some (.slice A0_9 l0_9.length c0_9) := (kC BK464.out 9).trans rfl
     go_wp2_with (first | (go_at_call 27; (with_reducible refine (impl_CoefsOk.calls kj1 a0_0 a0_1 a0_2 a0_3 _ _ l0_4 _ _ l0_6 false _ ?side1 ?side2 ?side3 ?side4 A10.out).mono ?_); (case side1 => exact zC (Kd.C_below HR0_4.out HB.out)); (case side2 => exact HC0_4.out); (case side3 => exact zC (Kd.C_below HR0_6.out HB.out)); (case side4 => exact HC0_6.out); rintro e w29 ⟨rfl, hb⟩; replace BK464 := cB BK464 hb; replace HB := cH HB hb; (try clear hb)))
     go_ret
     exact ⟨zR, zH⟩

theorem streamB_eq (p w h r : Int) (l : List S74) (T : List (List Int)) (c : List (List (List Int))) (m : Int) (J : List S86) (N : List Int) :
    streamB p w h r l T c m J N = (decide ((T.length : Int) = 4) && (T.all tabB && (coefsB p w h r l c && (inR m 0 1 && (scriptB p w h r l J && decide ((N.length : Int) ≤ 1000)))))) := by
  have hf : coefsB p w h r l c = true → frameB p w h r l = true := fun h => by
    unfold coefsB at h
    exact (Bool.and_eq_true_iff.1 h).1
  unfold streamB
  revert hf
  generalize frameB p w h r l = F
  generalize coefsB p w h r l c = C
  generalize inR m 0 1 = M
  generalize scriptB p w h r l J = K
  generalize decide ((T.length : Int) = 4) = D
  generalize decide ((N.length : Int) ≤ 1000) = E
  generalize T.all tabB = G
  cases F <;> cases C <;> cases M <;> cases K <;> cases D <;> cases E <;> cases G <;> simp
theorem iStreamOk_f (p w h r : Int) (l : List S74) (T : List (List Int)) (c : List (List (List Int))) (m : Int) (J : List S86) (N : List Int) (hl : l.length ≤ 1048576)
    (hcx : ∀ x ∈ c, BndS 1048576 x) (hJ : J.length ≤ 1048576) (hJx : ∀ x ∈ J, x.f0.length ≤ 1048576) :
    Ev (fun k => impl_StreamOk.f k p w h r l T c m J N) (streamB p w h r l T c m J N) := by
  have no : Ev (fun k => impl_StreamOk.j0 k true p w h r l T c m J N) false := Ev.step (fun k => by rw [impl_StreamOk.j0]) (evPos rfl (Ev.now _))
  rw [streamB_eq]
  unfold impl_StreamOk.f impl_StreamOk_1.f
  simp only [Option.bind_some]
  refine evIf (fun b2 => ?_) (fun b2 => by rw [decide_eq_false b2]; exact no)
  rw [decide_eq_true b2, Bool.true_and, ← any_not_all]
  cases hg : T.any (fun b => !(tabB b)) with
  | true => exact no
  | false =>
    rw [Bool.not_false, Bool.true_and]
    refine Ev.step (fun k => by rw [impl_StreamOk.j0]) (evNeg (by simp) ?_)
    refine evBind (iCoefsOk_f p w h r l hl c hcx) (evIf (fun b3 => ?_) (fun b3 => by rw [Bool.eq_false_iff.2 b3]; exact Ev.now _))
    rw [b3, Bool.true_and]
    refine evBind (evConst (within_f m 0 1)) (evIf (fun b4 => ?_) (fun b4 => by rw [Bool.eq_false_iff.2 b4]; exact Ev.now _))
    rw [b4, Bool.true_and]
    refine evBind (iScriptOk_f J hJ hJx p w h r l hl) (evIf (fun b5 => ?_) (fun b5 => by rw [Bool.eq_false_iff.2 b5]; exact Ev.now _))
    rw [b5, Bool.true_and]
    exact Ev.now _

end Go.Proofs.Ytpcfjobojdldnaa.CV
