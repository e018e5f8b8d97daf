/- Functions that a law of this seat reaches: written by a program of this session (wip/xprint.py), and by hand. -/
import Derived.Test.YtpcfjobojdldnaaYMac
import Derived.Test.YtpcfjobojdldnaaYCVx0
import Derived.Test.YtpcfjobojdldnaaYCVx6
import Derived.Test.YtpcfjobojdldnaaYCVx7
import Derived.Test.YtpcfjobojdldnaaYCVx11
import Derived.Test.YtpcfjobojdldnaaYCVx14
namespace Go.Proofs.Ytpcfjobojdldnaa.CV
open Go.RowKit Go.Proofs.Ytpcfjobojdldnaa.B Go.Proofs.YtpcfjobojdldnaaW.PrintWords Go.Proofs.YtpcfjobojdldnaaW.PrintLast Go.Proofs.YtpcfjobojdldnaaW.PrintMore
attribute [local go_sem] max2_int min2_int max_two min_two max_three min_three max_four min_four   -- for this text's walks alone
set_option linter.unusedVariables false
set_option linter.unusedSimpArgs false

theorem iFrame_l0 (p w h r : Int) (l : List S74) (hl : l.length ≤ 1048576) : ∀ (d i : Nat) (s : Int), i + d = l.length → Ev (fun k => impl_FrameOk.l0 k s l (l.length : Int) i p w h r l) (framesB l d i s) := by
  intro d
  induction d with
  | zero =>
    intro i s hi
    refine Ev.step (fun k => by rw [impl_FrameOk.l0]) (evNeg (by omega) ?_)
    exact Ev.now _
  | succ d ih =>
    intro i s hi
    have hil : i < l.length := by omega
    refine Ev.step (fun k => by rw [impl_FrameOk.l0]) (evPos (by omega) (evPos (by omega) (evPos (by omega) ?_)))
    simp only [within_f]
    rw [framesB]
    refine comp_ev (fun k b => impl_FrameOk.j2 k s i l (l.length : Int) i b p w h r l (rd_T74 l (i : Int)).f0 (rd_T74 l (i : Int)).f1 (rd_T74 l (i : Int)).f2 (rd_T74 l (i : Int)).f3) (rd_T74 l (i : Int)) _ ?_ ?_
    · refine Ev.step (fun k => by rw [impl_FrameOk.j2]) (evPos rfl ?_)
      exact Ev.now _
    · refine Ev.step (fun k => by rw [impl_FrameOk.j2]) (evNeg (by simp) (evPos (by omega) (evPos (by omega) ?_)))
      rw [Int.toNat_natCast]
      refine evBind (evConst rfl) (evIf (fun ha => ?_) (fun ha => ?_))
      · rw [ha]
        exact Ev.now _
      · rw [Bool.eq_false_iff.2 ha, w64 (x := (i : Int) + 1) (by omega) (by omega)]
        simpa using ih (i + 1) _ (by omega)
theorem iFrameOk_f (p w h r : Int) (l : List S74) (hl : l.length ≤ 1048576) : Ev (fun k => impl_FrameOk.f k p w h r l) (frameB p w h r l) := by
  unfold impl_FrameOk.f frameB
  simp only [within_f]
  refine head_ev (fun k b => impl_FrameOk.j0 k b p w h r l) p w h r (l.length : Int) _ ?_ (fun _ => ?_)
  · refine Ev.step (fun k => by rw [impl_FrameOk.j0]) (evPos rfl ?_)
    exact Ev.now _
  · refine Ev.step (fun k => by rw [impl_FrameOk.j0]) (evNeg (by simp) ?_)
    exact iFrame_l0 p w h r l hl l.length 0 0 (by omega)

/-! ### impl_Frame_most: function 82 -/
def impl_Frame_most.l0 : Nat → Int → Int → List (S74) → Int → Int → Option (Int × Int)
  | 0, _, _, _, _, _ => none
  | k + 1, x4, x5, x9, x10, x11 => if x11 < x10 then (if 0 ≤ x11 then (if x11 < (x9.length : Int) then (impl_Frame_most.l0 k (mx x4 ((rd_T74 x9 x11).f1)) (mx x5 ((rd_T74 x9 x11).f2)) x9 x10 (wrap64 (x11 + 1))) else (none)) else (none)) else (some (x4, x5))
def impl_Frame_most.f (k : Nat) (a0_0 : Int) (a0_1 : Int) (a0_2 : Int) (a0_3 : Int) (l0_4 : List (S74)) : Option (Int × Int) := impl_Frame_most.l0 k 1 1 l0_4 (l0_4.length : Int) 0
theorem impl_Frame_most.mono_l : ∀ k, (∀ y0 y1 y2 y3 y4, LeO (impl_Frame_most.l0 k y0 y1 y2 y3 y4) (impl_Frame_most.l0 (k + 1) y0 y1 y2 y3 y4))
 | 0 => fun _ _ _ _ _ r h => by simp [impl_Frame_most.l0] at h
 | k + 1 => by
  have ih0 := impl_Frame_most.mono_l k
  ·intro y0 y1 y2 y3 y4
   unfold impl_Frame_most.l0
   repeat' first
   | (with_reducible exact ih0 _ _ _ _ _)
   | (with_reducible exact LeO.refl _)
   | (with_reducible exact LeO.none _)
   | (with_reducible refine LeO.ite ?_ ?_)
   | (with_reducible refine LeO.bind ?_ (fun _ => ?_))
   | exact ih0 _ _ _ _ _
   | exact LeO.none _
   | refine LeO.ite ?_ ?_
   | refine LeO.bind ?_ (fun _ => ?_)
theorem impl_Frame_most.mono : ∀ a0 a1 a2 a3 a4 k, LeO (impl_Frame_most.f k a0 a1 a2 a3 a4) (impl_Frame_most.f (k + 1) a0 a1 a2 a3 a4) := by
 intro a0 a1 a2 a3 a4 k
 have ih0 := impl_Frame_most.mono_l k
 unfold impl_Frame_most.f
 repeat' first
   | (with_reducible exact ih0 _ _ _ _ _)
   | (with_reducible exact LeO.refl _)
   | (with_reducible exact LeO.none _)
   | (with_reducible refine LeO.ite ?_ ?_)
   | (with_reducible refine LeO.bind ?_ (fun _ => ?_))
   | exact ih0 _ _ _ _ _
   | exact LeO.none _
   | refine LeO.ite ?_ ?_
   | refine LeO.bind ?_ (fun _ => ?_)
set_option maxHeartbeats 8000000 in
set_option maxRecDepth 100000 in
theorem impl_Frame_most.calls (k : Nat) (a0_0 : Int) (a0_1 : Int) (a0_2 : Int) (a0_3 : Int) (A0_4 : Option Addr) (c0_4 : Nat) (l0_4 : List (S74)) (r1 : Int) (r2 : Int) (w : World) (hr0_4 : Kd.C k74 w A0_4 l0_4.length l0_4) (hc0_4 : l0_4.length ≤ c0_4) (h : impl_Frame_most.f k a0_0 a0_1 a0_2 a0_3 l0_4 = some (r1, r2)) :
  Calls Try.prog 82 #[.agg #[.int .i64 a0_0, .int .i64 a0_1, .int .i64 a0_2, .int .i64 a0_3, .slice A0_4 l0_4.length c0_4]] w fun e w' => e = .returned (.tuple #[.int .i64 r1, .int .i64 r2]) ∧ Below w.heap.size w w' := by
 have hu37 := Try.underlying37
 have hu74 := Try.underlying74
 have HR0_4 := aM hr0_4
 have HC0_4 := aM hc0_4
 clear hr0_4 hc0_4
 have HB := aM (Below.refl w.heap.size w)
 have H : (impl_Frame_most.l0 k 1 1 l0_4 (l0_4.length : Int) 0) = some (r1, r2) := h
 clear h
 have H' := aM H
 clear H
 go_enter Try.func82, Try.ntmps82
 repeat (go_wp2_with (first | ((with_reducible refine gate_dst (N := 1) rfl ?_); refine box_event ?hg (N := 1) ?hd (cs := #[.int .i64 a0_0, .int .i64 a0_1, .int .i64 a0_2, .int .i64 a0_3, .slice A0_4 l0_4.length c0_4]) (t := 37) ?hr ?_; (case hd => rfl); (case hg => rfl); (case hr => first | (go_simp; done) | (go_simp; rfl)); intro gb369 hg w2 hbox hb; have BK369 := aM hbox; have GW369 := aM (zG hg : w.heap.size ≤ gb369); have GE369 := aM (zG hg : w.heap.size ≤ gb369); replace HB := cH HB hb; clear hb hbox hg; obtain ⟨hcz3_0, hcz3_1, hcz3_2, hcz3_3, hcz3_4⟩ := kk5 BK369; obtain ⟨hfz3_0, hfz3_1, hfz3_2, hfz3_3, hfz3_4⟩ := kg5 BK369)); go_quiet (fail))
 try go_wp2_with (first | ((with_reducible refine gate_dst (N := 1) rfl ?_); refine box_event ?hg (N := 1) ?hd (cs := #[.int .i64 a0_0, .int .i64 a0_1, .int .i64 a0_2, .int .i64 a0_3, .slice A0_4 l0_4.length c0_4]) (t := 37) ?hr ?_; (case hd => rfl); (case hg => rfl); (case hr => first | (go_simp; done) | (go_simp; rfl)); intro gb369 hg w2 hbox hb; have BK369 := aM hbox; have GW369 := aM (zG hg : w.heap.size ≤ gb369); have GE369 := aM (zG hg : w.heap.size ≤ gb369); replace HB := cH HB hb; clear hb hbox hg; obtain ⟨hcz3_0, hcz3_1, hcz3_2, hcz3_3, hcz3_4⟩ := kk5 BK369; obtain ⟨hfz3_0, hfz3_1, hfz3_2, hfz3_3, hfz3_4⟩ := kg5 BK369))
 go_loopg [4, 5, 11] k (fun kq v4 v5 v11 w' => ∃ (x4_1 : Int) (x5_1 : Int) (x11_1 : Int), v4 = .int .i64 x4_1 ∧ v5 = .int .i64 x5_1 ∧ v11 = .int .i64 x11_1 ∧ Aside0 (impl_Frame_most.l0 kq x4_1 x5_1 l0_4 (l0_4.length : Int) x11_1 = some (r1, r2)) ∧ Aside0 (kq ≤ k) ∧ Aside0 (w'.heap[gb369]? = some (.cells #[.int .i64 a0_0, .int .i64 a0_1, .int .i64 a0_2, .int .i64 a0_3, (.slice A0_4 l0_4.length c0_4)] 37 (0, 0))) ∧ Aside0 (Below w.heap.size w w'))
 case atStart => exact ⟨(1), (1), (0), zS, zS, zS, H', ⟨Nat.le_refl _⟩, ⟨zK BK369⟩, ⟨zH⟩⟩
 case round =>
  clear H'
  (try clear hcz3_0); (try clear hcz3_1); (try clear hcz3_2); (try clear hcz3_3); (try clear hcz3_4); (try clear hfz3_0); (try clear hfz3_1); (try clear hfz3_2); (try clear hfz3_3); (try clear hfz3_4)
  obtain ⟨x4_1, x5_1, x11_1, rfl, rfl, rfl, HA, HK1, BK369, HB⟩ := hrel
  cases gk with
  | zero => exact absurd HA.out (by simp [impl_Frame_most.l0])
  | succ k1 =>
   have H := HA.out
   clear HA
   simp only [impl_Frame_most.l0] at H
   by_cases c4 : x11_1 < (l0_4.length : Int)
   ·rw [if_pos c4] at H
    have c4b0 : decide (x11_1 < (l0_4.length : Int)) = true := decide_eq_true c4
    clear c4
    by_cases c5 : 0 ≤ x11_1
    ·rw [if_pos c5] at H
     have c5b0 : decide (0 ≤ x11_1) = true := decide_eq_true c5
     clear c5
     by_cases c6 : x11_1 < (l0_4.length : Int)
     ·rw [if_pos c6] at H
      have c6b0 : decide (x11_1 < (l0_4.length : Int)) = true := decide_eq_true c6
      clear c6
      obtain ⟨ji7, hji7⟩ : ∃ j_ : Int, (mx x4_1 ((rd_T74 l0_4 x11_1).f1)) = j_ := ⟨_, rfl⟩
      replace H : (impl_Frame_most.l0 k1 ji7 (mx x5_1 ((rd_T74 l0_4 x11_1).f2)) l0_4 (l0_4.length : Int) (wrap64 (x11_1 + 1))) = some (r1, r2) := by first | (rw [hji7] at H; exact H) | (simp only [hji7] at H ⊢; exact H)
      have hji7_ : (if x4_1 < ((rd_T74 l0_4 x11_1).f1) then ((rd_T74 l0_4 x11_1).f1) else x4_1) = ji7 := hji7
      obtain ⟨ji8, hji8⟩ : ∃ j_ : Int, (mx x5_1 ((rd_T74 l0_4 x11_1).f2)) = j_ := ⟨_, rfl⟩
      replace H : (impl_Frame_most.l0 k1 ji7 ji8 l0_4 (l0_4.length : Int) (wrap64 (x11_1 + 1))) = some (r1, r2) := by first | (rw [hji8] at H; exact H) | (simp only [hji8] at H ⊢; exact H)
      have hji8_ : (if x5_1 < ((rd_T74 l0_4 x11_1).f2) then ((rd_T74 l0_4 x11_1).f2) else x5_1) = ji8 := hji8
      have H' := aM H
      clear H
      have p370 : 0 ≤ (x11_1 : Int) := zA
      have q370 : x11_1 < (l0_4.length : Int) := zA
      obtain ⟨ad370, e370, hx370_0, hx370_1, hx370_2, hx370_3⟩ := at_T74 HR0_4.out x11_1 p370 q370
      cases e370
      replace hx370_0 := hX HB hx370_0
      replace hx370_1 := hX HB hx370_1
      replace hx370_2 := hX HB hx370_2
      replace hx370_3 := hX HB hx370_3
      replace p370 := eq_true p370
      replace q370 := eq_true q370
      repeat (go_wp2_with (first | ((with_reducible refine gate_dst (N := 7) rfl ?_); refine box_event ?hg (N := 7) ?hd (cs := #[.int .i64 0, .int .i64 0, .int .i64 0, .int .i64 0]) (t := 74) ?hr ?_; (case hd => rfl); (case hg => rfl); (case hr => first | (go_simp; done) | (go_simp; rfl)); intro gb371 hg w9 hbox hb; have BK371 := aM hbox; have GW371 := aM (zG hg : w.heap.size ≤ gb371); have GE371 := aM (zG hg : w.heap.size ≤ gb371); replace HB := cH HB hb; have NB369_371 := aM ((zL hg BK369)); have NB371_369 := aM ((zM hg BK369)); replace BK369 := cB BK369 hb; clear hb hbox hg; have hnb10 := NB371_369.out; have hnc10 := NB369_371.out; obtain ⟨hcz11_0, hcz11_1, hcz11_2, hcz11_3⟩ := kk4 BK371; obtain ⟨hfz11_0, hfz11_1, hfz11_2, hfz11_3⟩ := kg4 BK371)); go_quiet (fail))
      try go_wp2_with (first | ((with_reducible refine gate_dst (N := 7) rfl ?_); refine box_event ?hg (N := 7) ?hd (cs := #[.int .i64 0, .int .i64 0, .int .i64 0, .int .i64 0]) (t := 74) ?hr ?_; (case hd => rfl); (case hg => rfl); (case hr => first | (go_simp; done) | (go_simp; rfl)); intro gb371 hg w9 hbox hb; have BK371 := aM hbox; have GW371 := aM (zG hg : w.heap.size ≤ gb371); have GE371 := aM (zG hg : w.heap.size ≤ gb371); replace HB := cH HB hb; have NB369_371 := aM ((zL hg BK369)); have NB371_369 := aM ((zM hg BK369)); replace BK369 := cB BK369 hb; clear hb hbox hg; have hnb10 := NB371_369.out; have hnc10 := NB369_371.out; obtain ⟨hcz11_0, hcz11_1, hcz11_2, hcz11_3⟩ := kk4 BK371; obtain ⟨hfz11_0, hfz11_1, hfz11_2, hfz11_3⟩ := kg4 BK371))
      go_roundg k1
      case measure => have := HK1.out; omega
      case rel => exact ⟨(ji7), (ji8), (wrap64 (x11_1 + 1)), (by first | rfl | (simp; done) | (simp only [← hji7] <;> (first | rfl | simp)) | (simp [*]; done)), (by first | rfl | (simp; done) | (simp only [← hji8] <;> (first | rfl | simp)) | (simp [*]; done)), zS, H', ⟨by have := HK1.out; omega⟩, ⟨by (with_reducible repeat (first | apply kN | apply kD | apply kA)); refine blk_far ?_ NB369_371.out _; (with_reducible repeat (first | apply kN | apply kD | apply kA)); refine blk_far ?_ NB369_371.out _; (with_reducible repeat (first | apply kN | apply kD | apply kA)); refine blk_far ?_ NB369_371.out _; (with_reducible repeat (first | apply kN | apply kD | apply kA)); refine blk_far ?_ NB369_371.out _; (with_reducible repeat (first | apply kN | apply kD | apply kA)); exact BK369.out⟩, ⟨zH⟩⟩
     ·rw [if_neg c6] at H
      exact absurd H (by simp)
    ·rw [if_neg c5] at H
     exact absurd H (by simp)
   ·rw [if_neg c4] at H
    have c4b0 : decide (x11_1 < (l0_4.length : Int)) = false := decide_eq_false c4
    clear c4
    simp only [Option.some.injEq, Prod.mk.injEq] at H
    obtain ⟨rfl, rfl⟩ := H
    go_wp2
    repeat (go_quiet (fail); try go_wp2)
    go_ret2
    exact ⟨zR, zH⟩

theorem iMost_l0 (l : List S74) (hl : l.length ≤ 1048576) : ∀ (d i : Nat) (a b : Int), i + d = l.length → Ev (fun k => impl_Frame_most.l0 k a b l (l.length : Int) i) (mostP l d i (a, b)) := by
  intro d
  induction d with
  | zero =>
    intro i a b hi
    refine Ev.step (fun k => by rw [impl_Frame_most.l0]) (evNeg (by omega) ?_)
    exact Ev.now _
  | succ d ih =>
    intro i a b hi
    refine Ev.step (fun k => by rw [impl_Frame_most.l0]) (evPos (by omega) (evPos (by omega) (evPos (by omega) ?_)))
    rw [w64 (x := (i : Int) + 1) (by omega) (by omega), mostP]
    exact ih (i + 1) _ _ (by omega)
theorem iMost_f (p w h r : Int) (l : List S74) (hl : l.length ≤ 1048576) : Ev (fun k => impl_Frame_most.f k p w h r l) (mostI l) := iMost_l0 l hl l.length 0 1 1 (by omega)

/-! ### impl_up: function 83 -/
def impl_up.f (a0 : Int) (a1 : Int) : Option (Int) := if a1 = 0 then (none) else (some (wrap64 (Int.tdiv (wrap64 ((wrap64 (a0 + a1)) - 1)) a1)))
set_option maxHeartbeats 8000000 in
set_option maxRecDepth 100000 in
theorem impl_up.calls (a0 : Int) (a1 : Int) (r : Int) (w : World) (h : impl_up.f a0 a1 = some r) :
  Calls Try.prog 83 #[.int .i64 a0, .int .i64 a1] w fun e w' => e = .returned (.int .i64 r) ∧ Drawn0 w w' := by
 have H : (if a1 = 0 then (none) else (some (wrap64 (Int.tdiv (wrap64 ((wrap64 (a0 + a1)) - 1)) a1)))) = some r := h
 clear h
 by_cases c3 : a1 = 0
 ·rw [if_pos c3] at H
  exact absurd H (by simp)
 ·rw [if_neg c3] at H
  have c3b0 : (a1 == 0) = false := beq_eq_false_iff_ne.mpr c3
  have c3b1 : (a1 != 0) = true := bne_iff_ne.mpr c3
  obtain rfl := Option.some.inj H
  go_enter Try.func83, Try.ntmps83
  go_wp2
  go_ret
  exact ⟨by first | rfl | (simp; done) | (simp [*]; done), by repeat (first | exact Drawn0.refl _ | apply Drawn0.step)⟩

theorem iUp_f (a b : Int) (hb : ¬ b = 0) : impl_up.f a b = some (upI a b) := by unfold impl_up.f upI; rw [if_neg hb]

/-! ### impl_Frame_units: function 67 -/
def impl_Frame_units.f (k : Nat) (a0_0 : Int) (a0_1 : Int) (a0_2 : Int) (a0_3 : Int) (l0_4 : List (S74)) : Option (Int × Int) := (impl_Frame_most.f k a0_0 a0_1 a0_2 a0_3 l0_4).bind fun bt373 => ((impl_up.f a0_1 (wrap64 (8 * bt373.1))).bind fun t375 => ((impl_up.f a0_2 (wrap64 (8 * bt373.2))).bind fun t376 => (some (t375, t376))))
theorem impl_Frame_units.mono : ∀ a0 a1 a2 a3 a4 k, LeO (impl_Frame_units.f k a0 a1 a2 a3 a4) (impl_Frame_units.f (k + 1) a0 a1 a2 a3 a4) := by
 intro a0 a1 a2 a3 a4 k
 unfold impl_Frame_units.f
 repeat' first
   | (with_reducible exact impl_Frame_most.mono _ _ _ _ _ _)
   | (with_reducible exact LeO.refl _)
   | (with_reducible exact LeO.none _)
   | (with_reducible refine LeO.ite ?_ ?_)
   | (with_reducible refine LeO.bind ?_ (fun _ => ?_))
   | exact impl_Frame_most.mono _ _ _ _ _ _
   | exact LeO.none _
   | refine LeO.ite ?_ ?_
   | refine LeO.bind ?_ (fun _ => ?_)
set_option maxHeartbeats 8000000 in
set_option maxRecDepth 100000 in
theorem impl_Frame_units.calls (k : Nat) (a0_0 : Int) (a0_1 : Int) (a0_2 : Int) (a0_3 : Int) (A0_4 : Option Addr) (c0_4 : Nat) (l0_4 : List (S74)) (r1 : Int) (r2 : Int) (w : World) (hr0_4 : Kd.C k74 w A0_4 l0_4.length l0_4) (hc0_4 : l0_4.length ≤ c0_4) (h : impl_Frame_units.f k a0_0 a0_1 a0_2 a0_3 l0_4 = some (r1, r2)) :
  Calls Try.prog 67 #[.agg #[.int .i64 a0_0, .int .i64 a0_1, .int .i64 a0_2, .int .i64 a0_3, .slice A0_4 l0_4.length c0_4]] w fun e w' => e = .returned (.tuple #[.int .i64 r1, .int .i64 r2]) ∧ Below w.heap.size w w' := by
 have hu37 := Try.underlying37
 have HR0_4 := aM hr0_4
 have HC0_4 := aM hc0_4
 clear hr0_4 hc0_4
 have HB := aM (Below.refl w.heap.size w)
 have H : ((impl_Frame_most.f k a0_0 a0_1 a0_2 a0_3 l0_4).bind fun bt373 => ((impl_up.f a0_1 (wrap64 (8 * bt373.1))).bind fun t375 => ((impl_up.f a0_2 (wrap64 (8 * bt373.2))).bind fun t376 => (some (t375, t376))))) = some (r1, r2) := h
 clear h
 replace H := oB H
 obtain ⟨⟨t373, t374⟩, A20, H⟩ := H
 replace H : ((impl_up.f a0_1 (wrap64 (8 * t373))).bind fun t375 => ((impl_up.f a0_2 (wrap64 (8 * t374))).bind fun t376 => (some (t375, t376)))) = some (r1, r2) := H
 have A2 := aM A20
 clear A20
 obtain ⟨t375, A3, H⟩ := oH H
 obtain ⟨t376, A4, H⟩ := oH H
 simp only [Option.some.injEq, Prod.mk.injEq] at H
 obtain ⟨rfl, rfl⟩ := H
 go_enter Try.func67, Try.ntmps67
 repeat (go_wp2_with (first | ((with_reducible refine gate_dst (N := 1) rfl ?_); refine box_event ?hg (N := 1) ?hd (cs := #[.int .i64 a0_0, .int .i64 a0_1, .int .i64 a0_2, .int .i64 a0_3, .slice A0_4 l0_4.length c0_4]) (t := 37) ?hr ?_; (case hd => rfl); (case hg => rfl); (case hr => first | (go_simp; done) | (go_simp; rfl)); intro gb372 hg w5 hbox hb; have BK372 := aM hbox; have GW372 := aM (zG hg : w.heap.size ≤ gb372); have GE372 := aM (zG hg : w.heap.size ≤ gb372); replace HB := cH HB hb; clear hb hbox hg; obtain ⟨hcz6_0, hcz6_1, hcz6_2, hcz6_3, hcz6_4⟩ := kk5 BK372; obtain ⟨hfz6_0, hfz6_1, hfz6_2, hfz6_3, hfz6_4⟩ := kg5 BK372) | (go_at_call 82; (with_reducible refine (impl_Frame_most.calls k a0_0 a0_1 a0_2 a0_3 _ _ l0_4 t373 t374 _ ?side1 ?side2 A2.out).mono ?_); (case side1 => exact zC (Kd.C_below HR0_4.out HB.out)); (case side2 => exact HC0_4.out); rintro e w7 ⟨rfl, hb⟩; replace BK372 := cB BK372 hb; replace HB := cH HB hb; (try clear hb); obtain ⟨hcz8_0, hcz8_1, hcz8_2, hcz8_3, hcz8_4⟩ := kk5 BK372; obtain ⟨hfz8_0, hfz8_1, hfz8_2, hfz8_3, hfz8_4⟩ := kg5 BK372) | (go_at_call 83; (with_reducible refine (impl_up.calls a0_1 (wrap64 (8 * t373)) t375 _ A3.out).mono ?_); rintro e w' ⟨rfl, ⟨nd, rfl⟩⟩; (try exact zD)) | (go_at_call 83; (with_reducible refine (impl_up.calls a0_2 (wrap64 (8 * t374)) t376 _ A4.out).mono ?_); rintro e w' ⟨rfl, ⟨nd, rfl⟩⟩; (try exact zD))); go_quiet (first | (go_at_call 83; (with_reducible refine (impl_up.calls a0_1 (wrap64 (8 * t373)) t375 _ A3.out).mono ?_); rintro e w' ⟨rfl, ⟨nd, rfl⟩⟩; (try exact zD)) | (go_at_call 83; (with_reducible refine (impl_up.calls a0_2 (wrap64 (8 * t374)) t376 _ A4.out).mono ?_); rintro e w' ⟨rfl, ⟨nd, rfl⟩⟩; (try exact zD))))
 try go_wp2_with (first | ((with_reducible refine gate_dst (N := 1) rfl ?_); refine box_event ?hg (N := 1) ?hd (cs := #[.int .i64 a0_0, .int .i64 a0_1, .int .i64 a0_2, .int .i64 a0_3, .slice A0_4 l0_4.length c0_4]) (t := 37) ?hr ?_; (case hd => rfl); (case hg => rfl); (case hr => first | (go_simp; done) | (go_simp; rfl)); intro gb372 hg w5 hbox hb; have BK372 := aM hbox; have GW372 := aM (zG hg : w.heap.size ≤ gb372); have GE372 := aM (zG hg : w.heap.size ≤ gb372); replace HB := cH HB hb; clear hb hbox hg; obtain ⟨hcz6_0, hcz6_1, hcz6_2, hcz6_3, hcz6_4⟩ := kk5 BK372; obtain ⟨hfz6_0, hfz6_1, hfz6_2, hfz6_3, hfz6_4⟩ := kg5 BK372) | (go_at_call 82; (with_reducible refine (impl_Frame_most.calls k a0_0 a0_1 a0_2 a0_3 _ _ l0_4 t373 t374 _ ?side1 ?side2 A2.out).mono ?_); (case side1 => exact zC (Kd.C_below HR0_4.out HB.out)); (case side2 => exact HC0_4.out); rintro e w7 ⟨rfl, hb⟩; replace BK372 := cB BK372 hb; replace HB := cH HB hb; (try clear hb); obtain ⟨hcz8_0, hcz8_1, hcz8_2, hcz8_3, hcz8_4⟩ := kk5 BK372; obtain ⟨hfz8_0, hfz8_1, hfz8_2, hfz8_3, hfz8_4⟩ := kg5 BK372) | (go_at_call 83; (with_reducible refine (impl_up.calls a0_1 (wrap64 (8 * t373)) t375 _ A3.out).mono ?_); rintro e w' ⟨rfl, ⟨nd, rfl⟩⟩; (try exact zD)) | (go_at_call 83; (with_reducible refine (impl_up.calls a0_2 (wrap64 (8 * t374)) t376 _ A4.out).mono ?_); rintro e w' ⟨rfl, ⟨nd, rfl⟩⟩; (try exact zD)))
 go_ret2
 exact ⟨zR, zH⟩

theorem iUnits_f {p w h r : Int} {l : List S74} (hl : l.length ≤ 1048576) (hb : frameB p w h r l = true) : Ev (fun k => impl_Frame_units.f k p w h r l) (unitsI w h l) := by
  obtain ⟨m1, m2⟩ := frame_most hb
  unfold impl_Frame_units.f unitsI
  refine evBind (iMost_f p w h r l hl) ?_
  rw [w64 (x := 8 * (mostI l).1) (by omega) (by omega), w64 (x := 8 * (mostI l).2) (by omega) (by omega)]
  refine evBind (evConst (iUp_f _ _ (by omega))) (evBind (evConst (iUp_f _ _ (by omega))) (Ev.now _))

/-! ### impl_Frame_blocks: function 52 -/
def impl_Frame_blocks.f (k : Nat) (a0_0 : Int) (a0_1 : Int) (a0_2 : Int) (a0_3 : Int) (l0_4 : List (S74)) (a1 : Int) : Option (Int × Int) := (impl_Frame_units.f k a0_0 a0_1 a0_2 a0_3 l0_4).bind fun bt378 => (if 0 ≤ a1 then (if a1 < (l0_4.length : Int) then (some (wrap64 (bt378.1 * ((rd_T74 l0_4 a1).f1)), wrap64 (bt378.2 * ((rd_T74 l0_4 a1).f2)))) else (none)) else (none))
theorem impl_Frame_blocks.mono : ∀ a0 a1 a2 a3 a4 a5 k, LeO (impl_Frame_blocks.f k a0 a1 a2 a3 a4 a5) (impl_Frame_blocks.f (k + 1) a0 a1 a2 a3 a4 a5) := by
 intro a0 a1 a2 a3 a4 a5 k
 unfold impl_Frame_blocks.f
 repeat' first
   | (with_reducible exact impl_Frame_units.mono _ _ _ _ _ _)
   | (with_reducible exact LeO.refl _)
   | (with_reducible exact LeO.none _)
   | (with_reducible refine LeO.ite ?_ ?_)
   | (with_reducible refine LeO.bind ?_ (fun _ => ?_))
   | exact impl_Frame_units.mono _ _ _ _ _ _
   | exact LeO.none _
   | refine LeO.ite ?_ ?_
   | refine LeO.bind ?_ (fun _ => ?_)
set_option maxHeartbeats 8000000 in
set_option maxRecDepth 100000 in
theorem impl_Frame_blocks.calls (k : Nat) (a0_0 : Int) (a0_1 : Int) (a0_2 : Int) (a0_3 : Int) (A0_4 : Option Addr) (c0_4 : Nat) (l0_4 : List (S74)) (a1 : Int) (r1 : Int) (r2 : Int) (w : World) (hr0_4 : Kd.C k74 w A0_4 l0_4.length l0_4) (hc0_4 : l0_4.length ≤ c0_4) (h : impl_Frame_blocks.f k a0_0 a0_1 a0_2 a0_3 l0_4 a1 = some (r1, r2)) :
  Calls Try.prog 52 #[.agg #[.int .i64 a0_0, .int .i64 a0_1, .int .i64 a0_2, .int .i64 a0_3, .slice A0_4 l0_4.length c0_4], .int .i64 a1] w fun e w' => e = .returned (.tuple #[.int .i64 r1, .int .i64 r2]) ∧ Below w.heap.size w w' := by
 have hu37 := Try.underlying37
 have HR0_4 := aM hr0_4
 have HC0_4 := aM hc0_4
 clear hr0_4 hc0_4
 have HB := aM (Below.refl w.heap.size w)
 have H : ((impl_Frame_units.f k a0_0 a0_1 a0_2 a0_3 l0_4).bind fun bt378 => (if 0 ≤ a1 then (if a1 < (l0_4.length : Int) then (some (wrap64 (bt378.1 * ((rd_T74 l0_4 a1).f1)), wrap64 (bt378.2 * ((rd_T74 l0_4 a1).f2)))) else (none)) else (none))) = some (r1, r2) := h
 clear h
 replace H := oB H
 obtain ⟨⟨t378, t379⟩, A30, H⟩ := H
 replace H : (if 0 ≤ a1 then (if a1 < (l0_4.length : Int) then (some (wrap64 (t378 * ((rd_T74 l0_4 a1).f1)), wrap64 (t379 * ((rd_T74 l0_4 a1).f2)))) else (none)) else (none)) = some (r1, r2) := H
 have A3 := aM A30
 clear A30
 by_cases c4 : 0 ≤ a1
 ·rw [if_pos c4] at H
  have c4b0 : decide (0 ≤ a1) = true := decide_eq_true c4
  clear c4
  by_cases c5 : a1 < (l0_4.length : Int)
  ·rw [if_pos c5] at H
   have c5b0 : decide (a1 < (l0_4.length : Int)) = true := decide_eq_true c5
   clear c5
   simp only [Option.some.injEq, Prod.mk.injEq] at H
   obtain ⟨rfl, rfl⟩ := H
   go_enter Try.func52, Try.ntmps52
   repeat (go_wp2_with (first | ((with_reducible refine gate_dst (N := 2) rfl ?_); refine box_event ?hg (N := 2) ?hd (cs := #[.int .i64 a0_0, .int .i64 a0_1, .int .i64 a0_2, .int .i64 a0_3, .slice A0_4 l0_4.length c0_4]) (t := 37) ?hr ?_; (case hd => rfl); (case hg => rfl); (case hr => first | (go_simp; done) | (go_simp; rfl)); intro gb377 hg w6 hbox hb; have BK377 := aM hbox; have GW377 := aM (zG hg : w.heap.size ≤ gb377); have GE377 := aM (zG hg : w.heap.size ≤ gb377); replace HB := cH HB hb; clear hb hbox hg; obtain ⟨hcz7_0, hcz7_1, hcz7_2, hcz7_3, hcz7_4⟩ := kk5 BK377; obtain ⟨hfz7_0, hfz7_1, hfz7_2, hfz7_3, hfz7_4⟩ := kg5 BK377) | (go_at_call 67; (with_reducible refine (impl_Frame_units.calls k a0_0 a0_1 a0_2 a0_3 _ _ l0_4 t378 t379 _ ?side1 ?side2 A3.out).mono ?_); (case side1 => exact zC (Kd.C_below HR0_4.out HB.out)); (case side2 => exact HC0_4.out); rintro e w8 ⟨rfl, hb⟩; replace BK377 := cB BK377 hb; replace HB := cH HB hb; (try clear hb); obtain ⟨hcz9_0, hcz9_1, hcz9_2, hcz9_3, hcz9_4⟩ := kk5 BK377; obtain ⟨hfz9_0, hfz9_1, hfz9_2, hfz9_3, hfz9_4⟩ := kg5 BK377; have p380 : 0 ≤ (a1 : Int) := zA; have q380 : a1 < (l0_4.length : Int) := zA; obtain ⟨ad380, e380, hx380_0, hx380_1, hx380_2, hx380_3⟩ := at_T74 HR0_4.out a1 p380 q380; cases e380; replace hx380_0 := hX HB hx380_0; replace hx380_1 := hX HB hx380_1; replace hx380_2 := hX HB hx380_2; replace hx380_3 := hX HB hx380_3; replace p380 := eq_true p380; replace q380 := eq_true q380; have p381 : 0 ≤ (a1 : Int) := zA; have q381 : a1 < (l0_4.length : Int) := zA; obtain ⟨ad381, e381, hx381_0, hx381_1, hx381_2, hx381_3⟩ := at_T74 HR0_4.out a1 p381 q381; obtain rfl : ad380 = ad381 := (by injection e381); replace hx381_0 := hX HB hx381_0; replace hx381_1 := hX HB hx381_1; replace hx381_2 := hX HB hx381_2; replace hx381_3 := hX HB hx381_3; replace p381 := eq_true p381; replace q381 := eq_true q381)); go_quiet (fail))
   try go_wp2_with (first | ((with_reducible refine gate_dst (N := 2) rfl ?_); refine box_event ?hg (N := 2) ?hd (cs := #[.int .i64 a0_0, .int .i64 a0_1, .int .i64 a0_2, .int .i64 a0_3, .slice A0_4 l0_4.length c0_4]) (t := 37) ?hr ?_; (case hd => rfl); (case hg => rfl); (case hr => first | (go_simp; done) | (go_simp; rfl)); intro gb377 hg w6 hbox hb; have BK377 := aM hbox; have GW377 := aM (zG hg : w.heap.size ≤ gb377); have GE377 := aM (zG hg : w.heap.size ≤ gb377); replace HB := cH HB hb; clear hb hbox hg; obtain ⟨hcz7_0, hcz7_1, hcz7_2, hcz7_3, hcz7_4⟩ := kk5 BK377; obtain ⟨hfz7_0, hfz7_1, hfz7_2, hfz7_3, hfz7_4⟩ := kg5 BK377) | (go_at_call 67; (with_reducible refine (impl_Frame_units.calls k a0_0 a0_1 a0_2 a0_3 _ _ l0_4 t378 t379 _ ?side1 ?side2 A3.out).mono ?_); (case side1 => exact zC (Kd.C_below HR0_4.out HB.out)); (case side2 => exact HC0_4.out); rintro e w8 ⟨rfl, hb⟩; replace BK377 := cB BK377 hb; replace HB := cH HB hb; (try clear hb); obtain ⟨hcz9_0, hcz9_1, hcz9_2, hcz9_3, hcz9_4⟩ := kk5 BK377; obtain ⟨hfz9_0, hfz9_1, hfz9_2, hfz9_3, hfz9_4⟩ := kg5 BK377; have p380 : 0 ≤ (a1 : Int) := zA; have q380 : a1 < (l0_4.length : Int) := zA; obtain ⟨ad380, e380, hx380_0, hx380_1, hx380_2, hx380_3⟩ := at_T74 HR0_4.out a1 p380 q380; cases e380; replace hx380_0 := hX HB hx380_0; replace hx380_1 := hX HB hx380_1; replace hx380_2 := hX HB hx380_2; replace hx380_3 := hX HB hx380_3; replace p380 := eq_true p380; replace q380 := eq_true q380; have p381 : 0 ≤ (a1 : Int) := zA; have q381 : a1 < (l0_4.length : Int) := zA; obtain ⟨ad381, e381, hx381_0, hx381_1, hx381_2, hx381_3⟩ := at_T74 HR0_4.out a1 p381 q381; obtain rfl : ad380 = ad381 := (by injection e381); replace hx381_0 := hX HB hx381_0; replace hx381_1 := hX HB hx381_1; replace hx381_2 := hX HB hx381_2; replace hx381_3 := hX HB hx381_3; replace p381 := eq_true p381; replace q381 := eq_true q381))
   go_ret2
   exact ⟨zR, zH⟩
  ·rw [if_neg c5] at H
   exact absurd H (by simp)
 ·rw [if_neg c4] at H
  exact absurd H (by simp)

theorem iBlocks_f {p w h r : Int} {l : List S74} (hl : l.length ≤ 1048576) (hb : frameB p w h r l = true) (c : Int) (h0 : 0 ≤ c) (h1 : c < (l.length : Int)) : Ev (fun k => impl_Frame_blocks.f k p w h r l c) (blocksI w h l c) := by
  unfold impl_Frame_blocks.f
  exact evBind (iUnits_f hl hb) (evPos h0 (evPos h1 (Ev.now _)))

/-! ### impl_isLevels: function 53 -/
def impl_isLevels.f (k : Nat) (l0 : List Int) : Option (Bool) := if (l0.length : Int) = 64 then ((impl_allWithin.f k l0 (-16383) 16383).bind fun t382 => (some t382)) else (some false)
theorem impl_isLevels.mono : ∀ a0 k, LeO (impl_isLevels.f k a0) (impl_isLevels.f (k + 1) a0) := by
 intro a0 k
 unfold impl_isLevels.f
 repeat' first
   | (with_reducible exact impl_allWithin.mono _ _ _ _)
   | (with_reducible exact LeO.refl _)
   | (with_reducible exact LeO.none _)
   | (with_reducible refine LeO.ite ?_ ?_)
   | (with_reducible refine LeO.bind ?_ (fun _ => ?_))
   | exact impl_allWithin.mono _ _ _ _
   | exact LeO.none _
   | refine LeO.ite ?_ ?_
   | refine LeO.bind ?_ (fun _ => ?_)
set_option maxHeartbeats 8000000 in
set_option maxRecDepth 100000 in
theorem impl_isLevels.calls (k : Nat) (A0 : Option Addr) (c0 : Nat) (l0 : List Int) (r : Bool) (w : World) (hr0 : Kd.C (Kd.int .i64) w A0 l0.length l0) (hc0 : l0.length ≤ c0) (h : impl_isLevels.f k l0 = some r) :
  Calls Try.prog 53 #[.slice A0 l0.length c0] w fun e w' => e = .returned (.bool r) ∧ Drawn0 w w' := by
 have HR0 := aM hr0
 have HC0 := aM hc0
 clear hr0 hc0
 have H : (if (l0.length : Int) = 64 then ((impl_allWithin.f k l0 (-16383) 16383).bind fun t382 => (some t382)) else (some false)) = some r := h
 clear h
 by_cases c2 : (l0.length : Int) = 64
 ·rw [if_pos c2] at H
  have c2b0 : ((l0.length : Int) == 64) = true := beq_iff_eq.mpr c2
  have c2b1 : ((l0.length : Int) != 64) = false := bne_eq_false_iff_eq.mpr c2
  clear c2
  obtain ⟨t382, A3, H⟩ := oH H
  obtain rfl := Option.some.inj H
  go_enter Try.func53, Try.ntmps53
  go_wp2_with (first | (go_at_call 50; (with_reducible refine (impl_allWithin.calls k _ _ l0 (-16383) 16383 t382 _ ?side1 ?side2 A3.out).mono ?_); (case side1 => exact zC HR0.out); (case side2 => exact HC0.out); rintro e w' ⟨rfl, ⟨nd, rfl⟩⟩))
  go_ret
  exact ⟨by first | rfl | (simp; done) | (simp [*]; done), by repeat (first | exact Drawn0.refl _ | apply Drawn0.step)⟩
 ·rw [if_neg c2] at H
  have c2b0 : ((l0.length : Int) == 64) = false := beq_eq_false_iff_ne.mpr c2
  have c2b1 : ((l0.length : Int) != 64) = true := bne_iff_ne.mpr c2
  obtain rfl := Option.some.inj H
  go_enter Try.func53, Try.ntmps53
  go_wp2
  go_ret
  exact ⟨by first | rfl | (simp; done) | (simp [*]; done), by repeat (first | exact Drawn0.refl _ | apply Drawn0.step)⟩

theorem isLevels_f (l : List Int) : Ev (fun k => impl_isLevels.f k l) (numsB l (-16383) 16383) := by
  unfold impl_isLevels.f numsB
  refine evIf (fun h => ?_) (fun h => ?_)
  · rw [decide_eq_true h, Bool.true_and]
    exact evBind (allWithin_f l _ _ (by unfold maxLen; omega)) (Ev.now _)
  · rw [decide_eq_false h, Bool.false_and]
    exact Ev.now _

/-! ### impl_Frame_size: function 84 -/
def impl_Frame_size.f (k : Nat) (a0_0 : Int) (a0_1 : Int) (a0_2 : Int) (a0_3 : Int) (l0_4 : List (S74)) (a1 : Int) : Option (Int × Int) := (impl_Frame_most.f k a0_0 a0_1 a0_2 a0_3 l0_4).bind fun bt384 => (if 0 ≤ a1 then (if a1 < (l0_4.length : Int) then ((impl_up.f (wrap64 (a0_1 * ((rd_T74 l0_4 a1).f1))) bt384.1).bind fun t387 => ((impl_up.f (wrap64 (a0_2 * ((rd_T74 l0_4 a1).f2))) bt384.2).bind fun t389 => (some (t387, t389)))) else (none)) else (none))
theorem impl_Frame_size.mono : ∀ a0 a1 a2 a3 a4 a5 k, LeO (impl_Frame_size.f k a0 a1 a2 a3 a4 a5) (impl_Frame_size.f (k + 1) a0 a1 a2 a3 a4 a5) := by
 intro a0 a1 a2 a3 a4 a5 k
 unfold impl_Frame_size.f
 repeat' first
   | (with_reducible exact impl_Frame_most.mono _ _ _ _ _ _)
   | (with_reducible exact LeO.refl _)
   | (with_reducible exact LeO.none _)
   | (with_reducible refine LeO.ite ?_ ?_)
   | (with_reducible refine LeO.bind ?_ (fun _ => ?_))
   | exact impl_Frame_most.mono _ _ _ _ _ _
   | exact LeO.none _
   | refine LeO.ite ?_ ?_
   | refine LeO.bind ?_ (fun _ => ?_)
set_option maxHeartbeats 8000000 in
set_option maxRecDepth 100000 in
theorem impl_Frame_size.calls (k : Nat) (a0_0 : Int) (a0_1 : Int) (a0_2 : Int) (a0_3 : Int) (A0_4 : Option Addr) (c0_4 : Nat) (l0_4 : List (S74)) (a1 : Int) (r1 : Int) (r2 : Int) (w : World) (hr0_4 : Kd.C k74 w A0_4 l0_4.length l0_4) (hc0_4 : l0_4.length ≤ c0_4) (h : impl_Frame_size.f k a0_0 a0_1 a0_2 a0_3 l0_4 a1 = some (r1, r2)) :
  Calls Try.prog 84 #[.agg #[.int .i64 a0_0, .int .i64 a0_1, .int .i64 a0_2, .int .i64 a0_3, .slice A0_4 l0_4.length c0_4], .int .i64 a1] w fun e w' => e = .returned (.tuple #[.int .i64 r1, .int .i64 r2]) ∧ Below w.heap.size w w' := by
 have hu37 := Try.underlying37
 have HR0_4 := aM hr0_4
 have HC0_4 := aM hc0_4
 clear hr0_4 hc0_4
 have HB := aM (Below.refl w.heap.size w)
 have H : ((impl_Frame_most.f k a0_0 a0_1 a0_2 a0_3 l0_4).bind fun bt384 => (if 0 ≤ a1 then (if a1 < (l0_4.length : Int) then ((impl_up.f (wrap64 (a0_1 * ((rd_T74 l0_4 a1).f1))) bt384.1).bind fun t387 => ((impl_up.f (wrap64 (a0_2 * ((rd_T74 l0_4 a1).f2))) bt384.2).bind fun t389 => (some (t387, t389)))) else (none)) else (none))) = some (r1, r2) := h
 clear h
 replace H := oB H
 obtain ⟨⟨t384, t385⟩, A30, H⟩ := H
 replace H : (if 0 ≤ a1 then (if a1 < (l0_4.length : Int) then ((impl_up.f (wrap64 (a0_1 * ((rd_T74 l0_4 a1).f1))) t384).bind fun t387 => ((impl_up.f (wrap64 (a0_2 * ((rd_T74 l0_4 a1).f2))) t385).bind fun t389 => (some (t387, t389)))) else (none)) else (none)) = some (r1, r2) := H
 have A3 := aM A30
 clear A30
 by_cases c4 : 0 ≤ a1
 ·rw [if_pos c4] at H
  have c4b0 : decide (0 ≤ a1) = true := decide_eq_true c4
  clear c4
  by_cases c5 : a1 < (l0_4.length : Int)
  ·rw [if_pos c5] at H
   have c5b0 : decide (a1 < (l0_4.length : Int)) = true := decide_eq_true c5
   clear c5
   obtain ⟨t387, A6, H⟩ := oH H
   obtain ⟨t389, A7, H⟩ := oH H
   simp only [Option.some.injEq, Prod.mk.injEq] at H
   obtain ⟨rfl, rfl⟩ := H
   go_enter Try.func84, Try.ntmps84
   go_wp2_with (first | ((with_reducible refine gate_dst (N := 2) rfl ?_); refine box_event ?hg (N := 2) ?hd (cs := #[.int .i64 a0_0, .int .i64 a0_1, .int .i64 a0_2, .int .i64 a0_3, .slice A0_4 l0_4.length c0_4]) (t := 37) ?hr ?_; (case hd => rfl); (case hg => rfl); (case hr => first | (go_simp; done) | (go_simp; rfl)); intro gb383 hg w8 hbox hb; have BK383 := aM hbox; have GW383 := aM (zG hg : w.heap.size ≤ gb383); have GE383 := aM (zG hg : w.heap.size ≤ gb383); replace HB := cH HB hb; clear hb hbox hg; obtain ⟨hcz9_0, hcz9_1, hcz9_2, hcz9_3, hcz9_4⟩ := kk5 BK383; obtain ⟨hfz9_0, hfz9_1, hfz9_2, hfz9_3, hfz9_4⟩ := kg5 BK383) | (go_at_call 82; (with_reducible refine (impl_Frame_most.calls k a0_0 a0_1 a0_2 a0_3 _ _ l0_4 t384 t385 _ ?side1 ?side2 A3.out).mono ?_); (case side1 => exact zC (Kd.C_below HR0_4.out HB.out)); (case side2 => exact HC0_4.out); rintro e w10 ⟨rfl, hb⟩; replace BK383 := cB BK383 hb; replace HB := cH HB hb; (try clear hb); obtain ⟨hcz11_0, hcz11_1, hcz11_2, hcz11_3, hcz11_4⟩ := kk5 BK383; obtain ⟨hfz11_0, hfz11_1, hfz11_2, hfz11_3, hfz11_4⟩ := kg5 BK383; have p386 : 0 ≤ (a1 : Int) := zA; have q386 : a1 < (l0_4.length : Int) := zA; obtain ⟨ad386, e386, hx386_0, hx386_1, hx386_2, hx386_3⟩ := at_T74 HR0_4.out a1 p386 q386; cases e386; replace hx386_0 := hX HB hx386_0; replace hx386_1 := hX HB hx386_1; replace hx386_2 := hX HB hx386_2; replace hx386_3 := hX HB hx386_3; replace p386 := eq_true p386; replace q386 := eq_true q386) | (go_at_call 83; (with_reducible refine (impl_up.calls (wrap64 (a0_1 * ((rd_T74 l0_4 a1).f1))) t384 t387 _ A6.out).mono ?_); rintro e w' ⟨rfl, ⟨nd, rfl⟩⟩; (try exact zD); have p388 : 0 ≤ (a1 : Int) := zA; have q388 : a1 < (l0_4.length : Int) := zA; obtain ⟨ad388, e388, hx388_0, hx388_1, hx388_2, hx388_3⟩ := at_T74 HR0_4.out a1 p388 q388; obtain rfl : ad386 = ad388 := (by injection e388); replace hx388_0 := hX HB hx388_0; replace hx388_1 := hX HB hx388_1; replace hx388_2 := hX HB hx388_2; replace hx388_3 := hX HB hx388_3; replace p388 := eq_true p388; replace q388 := eq_true q388) | (go_at_call 83; (with_reducible refine (impl_up.calls (wrap64 (a0_2 * ((rd_T74 l0_4 a1).f2))) t385 t389 _ A7.out).mono ?_); rintro e w' ⟨rfl, ⟨nd, rfl⟩⟩; (try exact zD)))
   try (have p388 : 0 ≤ (a1 : Int) := zA; have q388 : a1 < (l0_4.length : Int) := zA; obtain ⟨ad388, e388, hx388_0, hx388_1, hx388_2, hx388_3⟩ := at_T74 HR0_4.out a1 p388 q388; obtain rfl : ad386 = ad388 := (by injection e388); replace hx388_0 := hX HB hx388_0; replace hx388_1 := hX HB hx388_1; replace hx388_2 := hX HB hx388_2; replace hx388_3 := hX HB hx388_3; replace p388 := eq_true p388; replace q388 := eq_true q388)
   repeat (go_quiet (first | (go_at_call 83; (first | (with_reducible refine (impl_up.calls (wrap64 (a0_1 * ((rd_T74 l0_4 a1).f1))) t384 t387 _ A6.out).mono ?_) | ((simp only [i64_w]); (with_reducible refine (impl_up.calls (wrap64 (a0_1 * ((rd_T74 l0_4 a1).f1))) t384 t387 _ A6.out).mono ?_)) | (refine (impl_up.calls (wrap64 (a0_1 * ((rd_T74 l0_4 a1).f1))) t384 t387 _ A6.out).mono ?_)); rintro e w' ⟨rfl, ⟨nd, rfl⟩⟩; (try exact zD); all_goals (have p388 : 0 ≤ (a1 : Int) := zA; have q388 : a1 < (l0_4.length : Int) := zA; obtain ⟨ad388, e388, hx388_0, hx388_1, hx388_2, hx388_3⟩ := at_T74 HR0_4.out a1 p388 q388; obtain rfl : ad386 = ad388 := (by injection e388); replace hx388_0 := hX HB hx388_0; replace hx388_1 := hX HB hx388_1; replace hx388_2 := hX HB hx388_2; replace hx388_3 := hX HB hx388_3; replace p388 := eq_true p388; replace q388 := eq_true q388)) | (go_at_call 83; (first | (with_reducible refine (impl_up.calls (wrap64 (a0_2 * ((rd_T74 l0_4 a1).f2))) t385 t389 _ A7.out).mono ?_) | ((simp only [i64_w]); (with_reducible refine (impl_up.calls (wrap64 (a0_2 * ((rd_T74 l0_4 a1).f2))) t385 t389 _ A7.out).mono ?_)) | (refine (impl_up.calls (wrap64 (a0_2 * ((rd_T74 l0_4 a1).f2))) t385 t389 _ A7.out).mono ?_)); rintro e w' ⟨rfl, ⟨nd, rfl⟩⟩; (try exact zD))); try go_wp2_with (first | ((with_reducible refine gate_dst (N := 2) rfl ?_); refine box_event ?hg (N := 2) ?hd (cs := #[.int .i64 a0_0, .int .i64 a0_1, .int .i64 a0_2, .int .i64 a0_3, .slice A0_4 l0_4.length c0_4]) (t := 37) ?hr ?_; (case hd => rfl); (case hg => rfl); (case hr => first | (go_simp; done) | (go_simp; rfl)); intro gb383 hg w8 hbox hb; have BK383 := aM hbox; have GW383 := aM (zG hg : w.heap.size ≤ gb383); have GE383 := aM (zG hg : w.heap.size ≤ gb383); replace HB := cH HB hb; clear hb hbox hg; obtain ⟨hcz9_0, hcz9_1, hcz9_2, hcz9_3, hcz9_4⟩ := kk5 BK383; obtain ⟨hfz9_0, hfz9_1, hfz9_2, hfz9_3, hfz9_4⟩ := kg5 BK383) | (go_at_call 82; (with_reducible refine (impl_Frame_most.calls k a0_0 a0_1 a0_2 a0_3 _ _ l0_4 t384 t385 _ ?side1 ?side2 A3.out).mono ?_); (case side1 => exact zC (Kd.C_below HR0_4.out HB.out)); (case side2 => exact HC0_4.out); rintro e w10 ⟨rfl, hb⟩; replace BK383 := cB BK383 hb; replace HB := cH HB hb; (try clear hb); obtain ⟨hcz11_0, hcz11_1, hcz11_2, hcz11_3, hcz11_4⟩ := kk5 BK383; obtain ⟨hfz11_0, hfz11_1, hfz11_2, hfz11_3, hfz11_4⟩ := kg5 BK383; have p386 : 0 ≤ (a1 : Int) := zA; have q386 : a1 < (l0_4.length : Int) := zA; obtain ⟨ad386, e386, hx386_0, hx386_1, hx386_2, hx386_3⟩ := at_T74 HR0_4.out a1 p386 q386; cases e386; replace hx386_0 := hX HB hx386_0; replace hx386_1 := hX HB hx386_1; replace hx386_2 := hX HB hx386_2; replace hx386_3 := hX HB hx386_3; replace p386 := eq_true p386; replace q386 := eq_true q386) | (go_at_call 83; (first | (with_reducible refine (impl_up.calls (wrap64 (a0_1 * ((rd_T74 l0_4 a1).f1))) t384 t387 _ A6.out).mono ?_) | ((simp only [i64_w]); (with_reducible refine (impl_up.calls (wrap64 (a0_1 * ((rd_T74 l0_4 a1).f1))) t384 t387 _ A6.out).mono ?_)) | (refine (impl_up.calls (wrap64 (a0_1 * ((rd_T74 l0_4 a1).f1))) t384 t387 _ A6.out).mono ?_)); rintro e w' ⟨rfl, ⟨nd, rfl⟩⟩; (try exact zD); all_goals (have p388 : 0 ≤ (a1 : Int) := zA; have q388 : a1 < (l0_4.length : Int) := zA; obtain ⟨ad388, e388, hx388_0, hx388_1, hx388_2, hx388_3⟩ := at_T74 HR0_4.out a1 p388 q388; obtain rfl : ad386 = ad388 := (by injection e388); replace hx388_0 := hX HB hx388_0; replace hx388_1 := hX HB hx388_1; replace hx388_2 := hX HB hx388_2; replace hx388_3 := hX HB hx388_3; replace p388 := eq_true p388; replace q388 := eq_true q388)) | (go_at_call 83; (first | (with_reducible refine (impl_up.calls (wrap64 (a0_2 * ((rd_T74 l0_4 a1).f2))) t385 t389 _ A7.out).mono ?_) | ((simp only [i64_w]); (with_reducible refine (impl_up.calls (wrap64 (a0_2 * ((rd_T74 l0_4 a1).f2))) t385 t389 _ A7.out).mono ?_)) | (refine (impl_up.calls (wrap64 (a0_2 * ((rd_T74 l0_4 a1).f2))) t385 t389 _ A7.out).mono ?_)); rintro e w' ⟨rfl, ⟨nd, rfl⟩⟩; (try exact zD))))
   go_ret2
   exact ⟨zR, zH⟩
  ·rw [if_neg c5] at H
   exact absurd H (by simp)
 ·rw [if_neg c4] at H
  exact absurd H (by simp)

theorem iSize_f {p w h r : Int} {l : List S74} (hl : l.length ≤ 1048576) (hb : frameB p w h r l = true) (c : Int) (h0 : 0 ≤ c) (h1 : c < (l.length : Int)) : Ev (fun k => impl_Frame_size.f k p w h r l c) (sizeI w h l c) := by
  obtain ⟨m1, m2⟩ := frame_most hb
  unfold impl_Frame_size.f sizeI
  exact evBind (iMost_f p w h r l hl) (evPos h0 (evPos h1 (evBind (evConst (iUp_f _ _ (by omega))) (evBind (evConst (iUp_f _ _ (by omega))) (Ev.now _)))))

/-! ### impl_Frame_needed: function 68 -/
def impl_Frame_needed.f (k : Nat) (a0_0 : Int) (a0_1 : Int) (a0_2 : Int) (a0_3 : Int) (l0_4 : List (S74)) (a1 : Int) : Option (Int × Int) := (impl_Frame_size.f k a0_0 a0_1 a0_2 a0_3 l0_4 a1).bind fun bt391 => ((impl_up.f bt391.1 8).bind fun t393 => ((impl_up.f bt391.2 8).bind fun t394 => (some (t393, t394))))
theorem impl_Frame_needed.mono : ∀ a0 a1 a2 a3 a4 a5 k, LeO (impl_Frame_needed.f k a0 a1 a2 a3 a4 a5) (impl_Frame_needed.f (k + 1) a0 a1 a2 a3 a4 a5) := by
 intro a0 a1 a2 a3 a4 a5 k
 unfold impl_Frame_needed.f
 repeat' first
   | (with_reducible exact impl_Frame_size.mono _ _ _ _ _ _ _)
   | (with_reducible exact LeO.refl _)
   | (with_reducible exact LeO.none _)
   | (with_reducible refine LeO.ite ?_ ?_)
   | (with_reducible refine LeO.bind ?_ (fun _ => ?_))
   | exact impl_Frame_size.mono _ _ _ _ _ _ _
   | exact LeO.none _
   | refine LeO.ite ?_ ?_
   | refine LeO.bind ?_ (fun _ => ?_)
set_option maxHeartbeats 8000000 in
set_option maxRecDepth 100000 in
theorem impl_Frame_needed.calls (k : Nat) (a0_0 : Int) (a0_1 : Int) (a0_2 : Int) (a0_3 : Int) (A0_4 : Option Addr) (c0_4 : Nat) (l0_4 : List (S74)) (a1 : Int) (r1 : Int) (r2 : Int) (w : World) (hr0_4 : Kd.C k74 w A0_4 l0_4.length l0_4) (hc0_4 : l0_4.length ≤ c0_4) (h : impl_Frame_needed.f k a0_0 a0_1 a0_2 a0_3 l0_4 a1 = some (r1, r2)) :
  Calls Try.prog 68 #[.agg #[.int .i64 a0_0, .int .i64 a0_1, .int .i64 a0_2, .int .i64 a0_3, .slice A0_4 l0_4.length c0_4], .int .i64 a1] w fun e w' => e = .returned (.tuple #[.int .i64 r1, .int .i64 r2]) ∧ Below w.heap.size w w' := by
 have hu37 := Try.underlying37
 have HR0_4 := aM hr0_4
 have HC0_4 := aM hc0_4
 clear hr0_4 hc0_4
 have HB := aM (Below.refl w.heap.size w)
 have H : ((impl_Frame_size.f k a0_0 a0_1 a0_2 a0_3 l0_4 a1).bind fun bt391 => ((impl_up.f bt391.1 8).bind fun t393 => ((impl_up.f bt391.2 8).bind fun t394 => (some (t393, t394))))) = some (r1, r2) := h
 clear h
 replace H := oB H
 obtain ⟨⟨t391, t392⟩, A30, H⟩ := H
 replace H : ((impl_up.f t391 8).bind fun t393 => ((impl_up.f t392 8).bind fun t394 => (some (t393, t394)))) = some (r1, r2) := H
 have A3 := aM A30
 clear A30
 obtain ⟨t393, A4, H⟩ := oH H
 obtain ⟨t394, A5, H⟩ := oH H
 simp only [Option.some.injEq, Prod.mk.injEq] at H
 obtain ⟨rfl, rfl⟩ := H
 go_enter Try.func68, Try.ntmps68
 go_wp2_with (first | ((with_reducible refine gate_dst (N := 2) rfl ?_); refine box_event ?hg (N := 2) ?hd (cs := #[.int .i64 a0_0, .int .i64 a0_1, .int .i64 a0_2, .int .i64 a0_3, .slice A0_4 l0_4.length c0_4]) (t := 37) ?hr ?_; (case hd => rfl); (case hg => rfl); (case hr => first | (go_simp; done) | (go_simp; rfl)); intro gb390 hg w6 hbox hb; have BK390 := aM hbox; have GW390 := aM (zG hg : w.heap.size ≤ gb390); have GE390 := aM (zG hg : w.heap.size ≤ gb390); replace HB := cH HB hb; clear hb hbox hg; obtain ⟨hcz7_0, hcz7_1, hcz7_2, hcz7_3, hcz7_4⟩ := kk5 BK390; obtain ⟨hfz7_0, hfz7_1, hfz7_2, hfz7_3, hfz7_4⟩ := kg5 BK390) | (go_at_call 84; (with_reducible refine (impl_Frame_size.calls k a0_0 a0_1 a0_2 a0_3 _ _ l0_4 a1 t391 t392 _ ?side1 ?side2 A3.out).mono ?_); (case side1 => exact zC (Kd.C_below HR0_4.out HB.out)); (case side2 => exact HC0_4.out); rintro e w8 ⟨rfl, hb⟩; replace BK390 := cB BK390 hb; replace HB := cH HB hb; (try clear hb)) | ((with_reducible refine gate_callee (f := 83) rfl ?_); refine zGl (some 15) Try.func83 #[.int .i64 t391, .int .i64 8] ?_; (with_reducible refine (impl_up.calls t391 8 t393 _ A4.out).mono ?_); rintro e w' ⟨rfl, ⟨nd, rfl⟩⟩; refine ⟨_, rfl, ?_⟩) | ((with_reducible refine gate_callee (f := 83) rfl ?_); refine zGl (some 17) Try.func83 #[.int .i64 t392, .int .i64 8] ?_; (with_reducible refine (impl_up.calls t392 8 t394 _ A5.out).mono ?_); rintro e w' ⟨rfl, ⟨nd, rfl⟩⟩; refine ⟨_, rfl, ?_⟩))
 go_ret2
 exact ⟨zR, zH⟩

theorem iNeed_f {p w h r : Int} {l : List S74} (hl : l.length ≤ 1048576) (hb : frameB p w h r l = true) (c : Int) (h0 : 0 ≤ c) (h1 : c < (l.length : Int)) : Ev (fun k => impl_Frame_needed.f k p w h r l c) (needI w h l c) := by
  unfold impl_Frame_needed.f needI
  exact evBind (iSize_f hl hb c h0 h1) (evBind (evConst (iUp_f _ _ (by omega))) (evBind (evConst (iUp_f _ _ (by omega))) (Ev.now _)))

/-! ### impl_Frame_isHidden: function 54 -/
def impl_Frame_isHidden.f (k : Nat) (a0_0 : Int) (a0_1 : Int) (a0_2 : Int) (a0_3 : Int) (l0_4 : List (S74)) (a1 : Int) (a2 : Int) (a3 : Int) : Option (Bool) := (impl_Frame_needed.f k a0_0 a0_1 a0_2 a0_3 l0_4 a1).bind fun bt396 => (if a2 ≥ bt396.2 then (some true) else (some (decide (a3 ≥ bt396.1))))
theorem impl_Frame_isHidden.mono : ∀ a0 a1 a2 a3 a4 a5 a6 a7 k, LeO (impl_Frame_isHidden.f k a0 a1 a2 a3 a4 a5 a6 a7) (impl_Frame_isHidden.f (k + 1) a0 a1 a2 a3 a4 a5 a6 a7) := by
 intro a0 a1 a2 a3 a4 a5 a6 a7 k
 unfold impl_Frame_isHidden.f
 repeat' first
   | (with_reducible exact impl_Frame_needed.mono _ _ _ _ _ _ _)
   | (with_reducible exact LeO.refl _)
   | (with_reducible exact LeO.none _)
   | (with_reducible refine LeO.ite ?_ ?_)
   | (with_reducible refine LeO.bind ?_ (fun _ => ?_))
   | exact impl_Frame_needed.mono _ _ _ _ _ _ _
   | exact LeO.none _
   | refine LeO.ite ?_ ?_
   | refine LeO.bind ?_ (fun _ => ?_)
set_option maxHeartbeats 8000000 in
set_option maxRecDepth 100000 in
theorem impl_Frame_isHidden.calls (k : Nat) (a0_0 : Int) (a0_1 : Int) (a0_2 : Int) (a0_3 : Int) (A0_4 : Option Addr) (c0_4 : Nat) (l0_4 : List (S74)) (a1 : Int) (a2 : Int) (a3 : Int) (r : Bool) (w : World) (hr0_4 : Kd.C k74 w A0_4 l0_4.length l0_4) (hc0_4 : l0_4.length ≤ c0_4) (h : impl_Frame_isHidden.f k a0_0 a0_1 a0_2 a0_3 l0_4 a1 a2 a3 = some r) :
  Calls Try.prog 54 #[.agg #[.int .i64 a0_0, .int .i64 a0_1, .int .i64 a0_2, .int .i64 a0_3, .slice A0_4 l0_4.length c0_4], .int .i64 a1, .int .i64 a2, .int .i64 a3] w fun e w' => e = .returned (.bool r) ∧ Below w.heap.size w w' := by
 have hu37 := Try.underlying37
 have HR0_4 := aM hr0_4
 have HC0_4 := aM hc0_4
 clear hr0_4 hc0_4
 have HB := aM (Below.refl w.heap.size w)
 have H : ((impl_Frame_needed.f k a0_0 a0_1 a0_2 a0_3 l0_4 a1).bind fun bt396 => (if a2 ≥ bt396.2 then (some true) else (some (decide (a3 ≥ bt396.1))))) = some r := h
 clear h
 replace H := oB H
 obtain ⟨⟨t396, t397⟩, A50, H⟩ := H
 replace H : (if a2 ≥ t397 then (some true) else (some (decide (a3 ≥ t396)))) = some r := H
 have A5 := aM A50
 clear A50
 by_cases c6 : a2 ≥ t397
 ·rw [if_pos c6] at H
  have c6b0 : decide (t397 ≤ a2) = true := decide_eq_true c6
  clear c6
  obtain rfl := Option.some.inj H
  go_enter Try.func54, Try.ntmps54
  go_wp2_with (first | ((with_reducible refine gate_dst (N := 4) rfl ?_); refine box_event ?hg (N := 4) ?hd (cs := #[.int .i64 a0_0, .int .i64 a0_1, .int .i64 a0_2, .int .i64 a0_3, .slice A0_4 l0_4.length c0_4]) (t := 37) ?hr ?_; (case hd => rfl); (case hg => rfl); (case hr => first | (go_simp; done) | (go_simp; rfl)); intro gb395 hg w7 hbox hb; have BK395 := aM hbox; have GW395 := aM (zG hg : w.heap.size ≤ gb395); have GE395 := aM (zG hg : w.heap.size ≤ gb395); replace HB := cH HB hb; clear hb hbox hg; obtain ⟨hcz8_0, hcz8_1, hcz8_2, hcz8_3, hcz8_4⟩ := kk5 BK395; obtain ⟨hfz8_0, hfz8_1, hfz8_2, hfz8_3, hfz8_4⟩ := kg5 BK395) | (go_at_call 68; (with_reducible refine (impl_Frame_needed.calls k a0_0 a0_1 a0_2 a0_3 _ _ l0_4 a1 t396 t397 _ ?side1 ?side2 A5.out).mono ?_); (case side1 => exact zC (Kd.C_below HR0_4.out HB.out)); (case side2 => exact HC0_4.out); rintro e w9 ⟨rfl, hb⟩; replace BK395 := cB BK395 hb; replace HB := cH HB hb; (try clear hb)))
  go_ret
  exact ⟨zR, zH⟩
 ·rw [if_neg c6] at H
  have c6b0 : decide (t397 ≤ a2) = false := decide_eq_false c6
  clear c6
  obtain rfl := Option.some.inj H
  go_enter Try.func54, Try.ntmps54
  go_wp2_with (first | ((with_reducible refine gate_dst (N := 4) rfl ?_); refine box_event ?hg (N := 4) ?hd (cs := #[.int .i64 a0_0, .int .i64 a0_1, .int .i64 a0_2, .int .i64 a0_3, .slice A0_4 l0_4.length c0_4]) (t := 37) ?hr ?_; (case hd => rfl); (case hg => rfl); (case hr => first | (go_simp; done) | (go_simp; rfl)); intro gb395 hg w10 hbox hb; have BK395 := aM hbox; have GW395 := aM (zG hg : w.heap.size ≤ gb395); have GE395 := aM (zG hg : w.heap.size ≤ gb395); replace HB := cH HB hb; clear hb hbox hg; obtain ⟨hcz11_0, hcz11_1, hcz11_2, hcz11_3, hcz11_4⟩ := kk5 BK395; obtain ⟨hfz11_0, hfz11_1, hfz11_2, hfz11_3, hfz11_4⟩ := kg5 BK395) | (go_at_call 68; (with_reducible refine (impl_Frame_needed.calls k a0_0 a0_1 a0_2 a0_3 _ _ l0_4 a1 t396 t397 _ ?side1 ?side2 A5.out).mono ?_); (case side1 => exact zC (Kd.C_below HR0_4.out HB.out)); (case side2 => exact HC0_4.out); rintro e w12 ⟨rfl, hb⟩; replace BK395 := cB BK395 hb; replace HB := cH HB hb; (try clear hb)))
  go_ret
  exact ⟨zR, zH⟩

theorem iHidden_f {p w h r : Int} {l : List S74} (hl : l.length ≤ 1048576) (hb : frameB p w h r l = true) (c row col : Int) (h0 : 0 ≤ c) (h1 : c < (l.length : Int)) : Ev (fun k => impl_Frame_isHidden.f k p w h r l c row col) (hiddenB w h l c row col) := by
  unfold impl_Frame_isHidden.f hiddenB
  refine evBind (iNeed_f hl hb c h0 h1) (evIf (fun hh => ?_) (fun hh => ?_))
  · rw [decide_eq_true hh, Bool.true_or]; exact Ev.now _
  · rw [decide_eq_false hh, Bool.false_or]; exact Ev.now _

end Go.Proofs.Ytpcfjobojdldnaa.CV
