/- Functions that a law of this seat reaches: written by a program of this session (wip/xprint.py), and by hand. -/
import Derived.Test.YthajjjpblkhmmaaYMac
import Derived.Test.YthajjjpblkhmmaaYCBx0
import Derived.Test.YthajjjpblkhmmaaYCBx7
import Derived.Test.YthajjjpblkhmmaaYCBx9
import Derived.Test.YthajjjpblkhmmaaYCBx10
namespace Go.Proofs.Ythajjjpblkhmmaa.CB
open Go.RowKit Go.Proofs.Ythajjjpblkhmmaa.B Go.Proofs.YthajjjpblkhmmaaW.PrintWords Go.Proofs.YthajjjpblkhmmaaW.PrintLast Go.Proofs.YthajjjpblkhmmaaW.PrintMore
attribute [local go_sem] max2_int min2_int max_two min_two max_three min_three max_four min_four   -- for this text's walks alone
set_option linter.unusedVariables false
set_option linter.unusedSimpArgs false

theorem iFrame_l0 (p w h r : Int) (l : List S42) (hl : l.length ≤ 1048576) : ∀ (d i : Nat) (s : Int), i + d = l.length → Ev (fun k => impl_FrameOk.l0 k s l (l.length : Int) i p w h r l) (framesB l d i s) := by
  intro d
  induction d with
  | zero =>
    intro i s hi
    refine Ev.step (fun k => by rw [impl_FrameOk.l0]) (evNeg (by omega) ?_)
    exact Ev.now _
  | succ d ih =>
    intro i s hi
    have hil : i < l.length := by omega
    refine Ev.step (fun k => by rw [impl_FrameOk.l0]) (evPos (by omega) (evPos (by omega) (evPos (by omega) ?_)))
    simp only [within_f]
    rw [framesB]
    refine comp_ev (fun k b => impl_FrameOk.j2 k s i l (l.length : Int) i b p w h r l (rd_T42 l (i : Int)).f0 (rd_T42 l (i : Int)).f1 (rd_T42 l (i : Int)).f2 (rd_T42 l (i : Int)).f3) (rd_T42 l (i : Int)) _ ?_ ?_
    · refine Ev.step (fun k => by rw [impl_FrameOk.j2]) (evPos rfl ?_)
      exact Ev.now _
    · refine Ev.step (fun k => by rw [impl_FrameOk.j2]) (evNeg (by simp) (evPos (by omega) (evPos (by omega) ?_)))
      rw [Int.toNat_natCast]
      refine evBind (evConst rfl) (evIf (fun ha => ?_) (fun ha => ?_))
      · rw [ha]
        exact Ev.now _
      · rw [Bool.eq_false_iff.2 ha, w64 (x := (i : Int) + 1) (by omega) (by omega)]
        simpa using ih (i + 1) _ (by omega)
theorem iFrameOk_f (p w h r : Int) (l : List S42) (hl : l.length ≤ 1048576) : Ev (fun k => impl_FrameOk.f k p w h r l) (frameB p w h r l) := by
  unfold impl_FrameOk.f frameB
  simp only [within_f]
  refine head_ev (fun k b => impl_FrameOk.j0 k b p w h r l) p w h r (l.length : Int) _ ?_ (fun _ => ?_)
  · refine Ev.step (fun k => by rw [impl_FrameOk.j0]) (evPos rfl ?_)
    exact Ev.now _
  · refine Ev.step (fun k => by rw [impl_FrameOk.j0]) (evNeg (by simp) ?_)
    exact iFrame_l0 p w h r l hl l.length 0 0 (by omega)

/-! ### impl_Frame_most: function 146 -/
def impl_Frame_most.l0 : Nat → Int → Int → List (S42) → Int → Int → Option (Int × Int)
  | 0, _, _, _, _, _ => none
  | k + 1, x4, x5, x9, x10, x11 => if x11 < x10 then (if 0 ≤ x11 then (if x11 < (x9.length : Int) then (impl_Frame_most.l0 k (mx x4 ((rd_T42 x9 x11).f1)) (mx x5 ((rd_T42 x9 x11).f2)) x9 x10 (wrap64 (x11 + 1))) else (none)) else (none)) else (some (x4, x5))
def impl_Frame_most.f (k : Nat) (a0_0 : Int) (a0_1 : Int) (a0_2 : Int) (a0_3 : Int) (l0_4 : List (S42)) : Option (Int × Int) := impl_Frame_most.l0 k 1 1 l0_4 (l0_4.length : Int) 0
set_option maxHeartbeats 8000000 in
set_option maxRecDepth 100000 in
theorem impl_Frame_most.calls (k : Nat) (a0_0 : Int) (a0_1 : Int) (a0_2 : Int) (a0_3 : Int) (A0_4 : Option Addr) (c0_4 : Nat) (l0_4 : List (S42)) (r1 : Int) (r2 : Int) (w : World) (hr0_4 : Kd.C k42 w A0_4 l0_4.length l0_4) (hc0_4 : l0_4.length ≤ c0_4) (h : impl_Frame_most.f k a0_0 a0_1 a0_2 a0_3 l0_4 = some (r1, r2)) :
  Calls Try.prog 146 #[.agg #[.int .i64 a0_0, .int .i64 a0_1, .int .i64 a0_2, .int .i64 a0_3, .slice A0_4 l0_4.length c0_4]] w fun e w' => e = .returned (.tuple #[.int .i64 r1, .int .i64 r2]) ∧ Below w.heap.size w w' := by
 have hu45 := Try.underlying45
 have hu42 := Try.underlying42
 have HR0_4 := aM hr0_4
 have HC0_4 := aM hc0_4
 clear hr0_4 hc0_4
 have HB := aM (Below.refl w.heap.size w)
 have H : (impl_Frame_most.l0 k 1 1 l0_4 (l0_4.length : Int) 0) = some (r1, r2) := h
 clear h
 have H' := aM H
 clear H
 go_enter Try.func146, Try.ntmps146
 repeat (go_wp2_with (first | ((with_reducible refine gate_dst (N := 1) rfl ?_); refine box_event ?hg (N := 1) ?hd (cs := #[.int .i64 a0_0, .int .i64 a0_1, .int .i64 a0_2, .int .i64 a0_3, .slice A0_4 l0_4.length c0_4]) (t := 45) ?hr ?_; (case hd => rfl); (case hg => rfl); (case hr => first | (go_simp; done) | (go_simp; rfl)); intro gb291 hg w2 hbox hb; have BK291 := aM hbox; have GW291 := aM (zG hg : w.heap.size ≤ gb291); have GE291 := aM (zG hg : w.heap.size ≤ gb291); replace HB := cH HB hb; clear hb hbox hg; obtain ⟨hcz3_0, hcz3_1, hcz3_2, hcz3_3, hcz3_4⟩ := kk5 BK291; obtain ⟨hfz3_0, hfz3_1, hfz3_2, hfz3_3, hfz3_4⟩ := kg5 BK291)); go_quiet (fail))
 try go_wp2_with (first | ((with_reducible refine gate_dst (N := 1) rfl ?_); refine box_event ?hg (N := 1) ?hd (cs := #[.int .i64 a0_0, .int .i64 a0_1, .int .i64 a0_2, .int .i64 a0_3, .slice A0_4 l0_4.length c0_4]) (t := 45) ?hr ?_; (case hd => rfl); (case hg => rfl); (case hr => first | (go_simp; done) | (go_simp; rfl)); intro gb291 hg w2 hbox hb; have BK291 := aM hbox; have GW291 := aM (zG hg : w.heap.size ≤ gb291); have GE291 := aM (zG hg : w.heap.size ≤ gb291); replace HB := cH HB hb; clear hb hbox hg; obtain ⟨hcz3_0, hcz3_1, hcz3_2, hcz3_3, hcz3_4⟩ := kk5 BK291; obtain ⟨hfz3_0, hfz3_1, hfz3_2, hfz3_3, hfz3_4⟩ := kg5 BK291))
 go_loopg [4, 5, 11] k (fun kq v4 v5 v11 w' => ∃ (x4_1 : Int) (x5_1 : Int) (x11_1 : Int), v4 = .int .i64 x4_1 ∧ v5 = .int .i64 x5_1 ∧ v11 = .int .i64 x11_1 ∧ Aside0 (impl_Frame_most.l0 kq x4_1 x5_1 l0_4 (l0_4.length : Int) x11_1 = some (r1, r2)) ∧ Aside0 (kq ≤ k) ∧ Aside0 (w'.heap[gb291]? = some (.cells #[.int .i64 a0_0, .int .i64 a0_1, .int .i64 a0_2, .int .i64 a0_3, (.slice A0_4 l0_4.length c0_4)] 45 (0, 0))) ∧ Aside0 (Below w.heap.size w w'))
 case atStart => exact ⟨(1), (1), (0), zS, zS, zS, H', ⟨Nat.le_refl _⟩, ⟨zK BK291⟩, ⟨zH⟩⟩
 case round =>
  clear H'
  (try clear hcz3_0); (try clear hcz3_1); (try clear hcz3_2); (try clear hcz3_3); (try clear hcz3_4); (try clear hfz3_0); (try clear hfz3_1); (try clear hfz3_2); (try clear hfz3_3); (try clear hfz3_4)
  obtain ⟨x4_1, x5_1, x11_1, rfl, rfl, rfl, HA, HK1, BK291, HB⟩ := hrel
  cases gk with
  | zero => exact absurd HA.out (by simp [impl_Frame_most.l0])
  | succ k1 =>
   have H := HA.out
   clear HA
   simp only [impl_Frame_most.l0] at H
   by_cases c4 : x11_1 < (l0_4.length : Int)
   ·rw [if_pos c4] at H
    have c4b0 : decide (x11_1 < (l0_4.length : Int)) = true := decide_eq_true c4
    clear c4
    by_cases c5 : 0 ≤ x11_1
    ·rw [if_pos c5] at H
     have c5b0 : decide (0 ≤ x11_1) = true := decide_eq_true c5
     clear c5
     by_cases c6 : x11_1 < (l0_4.length : Int)
     ·rw [if_pos c6] at H
      have c6b0 : decide (x11_1 < (l0_4.length : Int)) = true := decide_eq_true c6
      clear c6
      obtain ⟨ji7, hji7⟩ : ∃ j_ : Int, (mx x4_1 ((rd_T42 l0_4 x11_1).f1)) = j_ := ⟨_, rfl⟩
      replace H : (impl_Frame_most.l0 k1 ji7 (mx x5_1 ((rd_T42 l0_4 x11_1).f2)) l0_4 (l0_4.length : Int) (wrap64 (x11_1 + 1))) = some (r1, r2) := by first | (rw [hji7] at H; exact H) | (simp only [hji7] at H ⊢; exact H)
      have hji7_ : (if x4_1 < ((rd_T42 l0_4 x11_1).f1) then ((rd_T42 l0_4 x11_1).f1) else x4_1) = ji7 := hji7
      obtain ⟨ji8, hji8⟩ : ∃ j_ : Int, (mx x5_1 ((rd_T42 l0_4 x11_1).f2)) = j_ := ⟨_, rfl⟩
      replace H : (impl_Frame_most.l0 k1 ji7 ji8 l0_4 (l0_4.length : Int) (wrap64 (x11_1 + 1))) = some (r1, r2) := by first | (rw [hji8] at H; exact H) | (simp only [hji8] at H ⊢; exact H)
      have hji8_ : (if x5_1 < ((rd_T42 l0_4 x11_1).f2) then ((rd_T42 l0_4 x11_1).f2) else x5_1) = ji8 := hji8
      have H' := aM H
      clear H
      have p292 : 0 ≤ (x11_1 : Int) := zA
      have q292 : x11_1 < (l0_4.length : Int) := zA
      obtain ⟨ad292, e292, hx292_0, hx292_1, hx292_2, hx292_3⟩ := at_T42 HR0_4.out x11_1 p292 q292
      cases e292
      replace hx292_0 := hX HB hx292_0
      replace hx292_1 := hX HB hx292_1
      replace hx292_2 := hX HB hx292_2
      replace hx292_3 := hX HB hx292_3
      replace p292 := eq_true p292
      replace q292 := eq_true q292
      repeat (go_wp2_with (first | ((with_reducible refine gate_dst (N := 7) rfl ?_); refine box_event ?hg (N := 7) ?hd (cs := #[.int .i64 0, .int .i64 0, .int .i64 0, .int .i64 0]) (t := 42) ?hr ?_; (case hd => rfl); (case hg => rfl); (case hr => first | (go_simp; done) | (go_simp; rfl)); intro gb293 hg w9 hbox hb; have BK293 := aM hbox; have GW293 := aM (zG hg : w.heap.size ≤ gb293); have GE293 := aM (zG hg : w.heap.size ≤ gb293); replace HB := cH HB hb; have NB291_293 := aM ((zL hg BK291)); have NB293_291 := aM ((zM hg BK291)); replace BK291 := cB BK291 hb; clear hb hbox hg; have hnb10 := NB293_291.out; have hnc10 := NB291_293.out; obtain ⟨hcz11_0, hcz11_1, hcz11_2, hcz11_3⟩ := kk4 BK293; obtain ⟨hfz11_0, hfz11_1, hfz11_2, hfz11_3⟩ := kg4 BK293)); go_quiet (fail))
      try go_wp2_with (first | ((with_reducible refine gate_dst (N := 7) rfl ?_); refine box_event ?hg (N := 7) ?hd (cs := #[.int .i64 0, .int .i64 0, .int .i64 0, .int .i64 0]) (t := 42) ?hr ?_; (case hd => rfl); (case hg => rfl); (case hr => first | (go_simp; done) | (go_simp; rfl)); intro gb293 hg w9 hbox hb; have BK293 := aM hbox; have GW293 := aM (zG hg : w.heap.size ≤ gb293); have GE293 := aM (zG hg : w.heap.size ≤ gb293); replace HB := cH HB hb; have NB291_293 := aM ((zL hg BK291)); have NB293_291 := aM ((zM hg BK291)); replace BK291 := cB BK291 hb; clear hb hbox hg; have hnb10 := NB293_291.out; have hnc10 := NB291_293.out; obtain ⟨hcz11_0, hcz11_1, hcz11_2, hcz11_3⟩ := kk4 BK293; obtain ⟨hfz11_0, hfz11_1, hfz11_2, hfz11_3⟩ := kg4 BK293))
      go_roundg k1
      case measure => have := HK1.out; omega
      case rel => exact ⟨(ji7), (ji8), (wrap64 (x11_1 + 1)), (by first | rfl | (simp; done) | (simp only [← hji7] <;> (first | rfl | simp)) | (simp [*]; done)), (by first | rfl | (simp; done) | (simp only [← hji8] <;> (first | rfl | simp)) | (simp [*]; done)), zS, H', ⟨by have := HK1.out; omega⟩, ⟨by (with_reducible repeat (first | apply kN | apply kD | apply kA)); refine blk_far ?_ NB291_293.out _; (with_reducible repeat (first | apply kN | apply kD | apply kA)); refine blk_far ?_ NB291_293.out _; (with_reducible repeat (first | apply kN | apply kD | apply kA)); refine blk_far ?_ NB291_293.out _; (with_reducible repeat (first | apply kN | apply kD | apply kA)); refine blk_far ?_ NB291_293.out _; (with_reducible repeat (first | apply kN | apply kD | apply kA)); exact BK291.out⟩, ⟨zH⟩⟩
     ·rw [if_neg c6] at H
      exact absurd H (by simp)
    ·rw [if_neg c5] at H
     exact absurd H (by simp)
   ·rw [if_neg c4] at H
    have c4b0 : decide (x11_1 < (l0_4.length : Int)) = false := decide_eq_false c4
    clear c4
    simp only [Option.some.injEq, Prod.mk.injEq] at H
    obtain ⟨rfl, rfl⟩ := H
    go_wp2
    repeat (go_quiet (fail); try go_wp2)
    go_ret2
    exact ⟨zR, zH⟩

theorem iMost_l0 (l : List S42) (hl : l.length ≤ 1048576) : ∀ (d i : Nat) (a b : Int), i + d = l.length → Ev (fun k => impl_Frame_most.l0 k a b l (l.length : Int) i) (mostP l d i (a, b)) := by
  intro d
  induction d with
  | zero =>
    intro i a b hi
    refine Ev.step (fun k => by rw [impl_Frame_most.l0]) (evNeg (by omega) ?_)
    exact Ev.now _
  | succ d ih =>
    intro i a b hi
    refine Ev.step (fun k => by rw [impl_Frame_most.l0]) (evPos (by omega) (evPos (by omega) (evPos (by omega) ?_)))
    rw [w64 (x := (i : Int) + 1) (by omega) (by omega), mostP]
    exact ih (i + 1) _ _ (by omega)
theorem iMost_f (p w h r : Int) (l : List S42) (hl : l.length ≤ 1048576) : Ev (fun k => impl_Frame_most.f k p w h r l) (mostI l) := iMost_l0 l hl l.length 0 1 1 (by omega)

/-! ### impl_up: function 147 -/
def impl_up.f (a0 : Int) (a1 : Int) : Option (Int) := if a1 = 0 then (none) else (some (wrap64 (Int.tdiv (wrap64 ((wrap64 (a0 + a1)) - 1)) a1)))
set_option maxHeartbeats 8000000 in
set_option maxRecDepth 100000 in
theorem impl_up.calls (a0 : Int) (a1 : Int) (r : Int) (w : World) (h : impl_up.f a0 a1 = some r) :
  Calls Try.prog 147 #[.int .i64 a0, .int .i64 a1] w fun e w' => e = .returned (.int .i64 r) ∧ Drawn0 w w' := by
 have H : (if a1 = 0 then (none) else (some (wrap64 (Int.tdiv (wrap64 ((wrap64 (a0 + a1)) - 1)) a1)))) = some r := h
 clear h
 by_cases c3 : a1 = 0
 ·rw [if_pos c3] at H
  exact absurd H (by simp)
 ·rw [if_neg c3] at H
  have c3b0 : (a1 == 0) = false := beq_eq_false_iff_ne.mpr c3
  have c3b1 : (a1 != 0) = true := bne_iff_ne.mpr c3
  obtain rfl := Option.some.inj H
  go_enter Try.func147, Try.ntmps147
  go_wp2
  go_ret
  exact ⟨by first | rfl | (simp; done) | (simp [*]; done), by repeat (first | exact Drawn0.refl _ | apply Drawn0.step)⟩

theorem iUp_f (a b : Int) (hb : ¬ b = 0) : impl_up.f a b = some (upI a b) := by unfold impl_up.f upI; rw [if_neg hb]

/-! ### impl_Frame_units: function 132 -/
def impl_Frame_units.f (k : Nat) (a0_0 : Int) (a0_1 : Int) (a0_2 : Int) (a0_3 : Int) (l0_4 : List (S42)) : Option (Int × Int) := (impl_Frame_most.f k a0_0 a0_1 a0_2 a0_3 l0_4).bind fun bt295 => ((impl_up.f a0_1 (wrap64 (8 * bt295.1))).bind fun t297 => ((impl_up.f a0_2 (wrap64 (8 * bt295.2))).bind fun t298 => (some (t297, t298))))
set_option maxHeartbeats 8000000 in
set_option maxRecDepth 100000 in
theorem impl_Frame_units.calls (k : Nat) (a0_0 : Int) (a0_1 : Int) (a0_2 : Int) (a0_3 : Int) (A0_4 : Option Addr) (c0_4 : Nat) (l0_4 : List (S42)) (r1 : Int) (r2 : Int) (w : World) (hr0_4 : Kd.C k42 w A0_4 l0_4.length l0_4) (hc0_4 : l0_4.length ≤ c0_4) (h : impl_Frame_units.f k a0_0 a0_1 a0_2 a0_3 l0_4 = some (r1, r2)) :
  Calls Try.prog 132 #[.agg #[.int .i64 a0_0, .int .i64 a0_1, .int .i64 a0_2, .int .i64 a0_3, .slice A0_4 l0_4.length c0_4]] w fun e w' => e = .returned (.tuple #[.int .i64 r1, .int .i64 r2]) ∧ Below w.heap.size w w' := by
 have hu45 := Try.underlying45
 have HR0_4 := aM hr0_4
 have HC0_4 := aM hc0_4
 clear hr0_4 hc0_4
 have HB := aM (Below.refl w.heap.size w)
 have H : ((impl_Frame_most.f k a0_0 a0_1 a0_2 a0_3 l0_4).bind fun bt295 => ((impl_up.f a0_1 (wrap64 (8 * bt295.1))).bind fun t297 => ((impl_up.f a0_2 (wrap64 (8 * bt295.2))).bind fun t298 => (some (t297, t298))))) = some (r1, r2) := h
 clear h
 replace H := oB H
 obtain ⟨⟨t295, t296⟩, A20, H⟩ := H
 replace H : ((impl_up.f a0_1 (wrap64 (8 * t295))).bind fun t297 => ((impl_up.f a0_2 (wrap64 (8 * t296))).bind fun t298 => (some (t297, t298)))) = some (r1, r2) := H
 have A2 := aM A20
 clear A20
 obtain ⟨t297, A3, H⟩ := oH H
 obtain ⟨t298, A4, H⟩ := oH H
 simp only [Option.some.injEq, Prod.mk.injEq] at H
 obtain ⟨rfl, rfl⟩ := H
 go_enter Try.func132, Try.ntmps132
 repeat (go_wp2_with (first | ((with_reducible refine gate_dst (N := 1) rfl ?_); refine box_event ?hg (N := 1) ?hd (cs := #[.int .i64 a0_0, .int .i64 a0_1, .int .i64 a0_2, .int .i64 a0_3, .slice A0_4 l0_4.length c0_4]) (t := 45) ?hr ?_; (case hd => rfl); (case hg => rfl); (case hr => first | (go_simp; done) | (go_simp; rfl)); intro gb294 hg w5 hbox hb; have BK294 := aM hbox; have GW294 := aM (zG hg : w.heap.size ≤ gb294); have GE294 := aM (zG hg : w.heap.size ≤ gb294); replace HB := cH HB hb; clear hb hbox hg; obtain ⟨hcz6_0, hcz6_1, hcz6_2, hcz6_3, hcz6_4⟩ := kk5 BK294; obtain ⟨hfz6_0, hfz6_1, hfz6_2, hfz6_3, hfz6_4⟩ := kg5 BK294) | (go_at_call 146; (with_reducible refine (impl_Frame_most.calls k a0_0 a0_1 a0_2 a0_3 _ _ l0_4 t295 t296 _ ?side1 ?side2 A2.out).mono ?_); (case side1 => exact zC (Kd.C_below HR0_4.out HB.out)); (case side2 => exact HC0_4.out); rintro e w7 ⟨rfl, hb⟩; replace BK294 := cB BK294 hb; replace HB := cH HB hb; (try clear hb); obtain ⟨hcz8_0, hcz8_1, hcz8_2, hcz8_3, hcz8_4⟩ := kk5 BK294; obtain ⟨hfz8_0, hfz8_1, hfz8_2, hfz8_3, hfz8_4⟩ := kg5 BK294) | (go_at_call 147; (with_reducible refine (impl_up.calls a0_1 (wrap64 (8 * t295)) t297 _ A3.out).mono ?_); rintro e w' ⟨rfl, ⟨nd, rfl⟩⟩; (try exact zD)) | (go_at_call 147; (with_reducible refine (impl_up.calls a0_2 (wrap64 (8 * t296)) t298 _ A4.out).mono ?_); rintro e w' ⟨rfl, ⟨nd, rfl⟩⟩; (try exact zD))); go_quiet (first | (go_at_call 147; (with_reducible refine (impl_up.calls a0_1 (wrap64 (8 * t295)) t297 _ A3.out).mono ?_); rintro e w' ⟨rfl, ⟨nd, rfl⟩⟩; (try exact zD)) | (go_at_call 147; (with_reducible refine (impl_up.calls a0_2 (wrap64 (8 * t296)) t298 _ A4.out).mono ?_); rintro e w' ⟨rfl, ⟨nd, rfl⟩⟩; (try exact zD))))
 try go_wp2_with (first | ((with_reducible refine gate_dst (N := 1) rfl ?_); refine box_event ?hg (N := 1) ?hd (cs := #[.int .i64 a0_0, .int .i64 a0_1, .int .i64 a0_2, .int .i64 a0_3, .slice A0_4 l0_4.length c0_4]) (t := 45) ?hr ?_; (case hd => rfl); (case hg => rfl); (case hr => first | (go_simp; done) | (go_simp; rfl)); intro gb294 hg w5 hbox hb; have BK294 := aM hbox; have GW294 := aM (zG hg : w.heap.size ≤ gb294); have GE294 := aM (zG hg : w.heap.size ≤ gb294); replace HB := cH HB hb; clear hb hbox hg; obtain ⟨hcz6_0, hcz6_1, hcz6_2, hcz6_3, hcz6_4⟩ := kk5 BK294; obtain ⟨hfz6_0, hfz6_1, hfz6_2, hfz6_3, hfz6_4⟩ := kg5 BK294) | (go_at_call 146; (with_reducible refine (impl_Frame_most.calls k a0_0 a0_1 a0_2 a0_3 _ _ l0_4 t295 t296 _ ?side1 ?side2 A2.out).mono ?_); (case side1 => exact zC (Kd.C_below HR0_4.out HB.out)); (case side2 => exact HC0_4.out); rintro e w7 ⟨rfl, hb⟩; replace BK294 := cB BK294 hb; replace HB := cH HB hb; (try clear hb); obtain ⟨hcz8_0, hcz8_1, hcz8_2, hcz8_3, hcz8_4⟩ := kk5 BK294; obtain ⟨hfz8_0, hfz8_1, hfz8_2, hfz8_3, hfz8_4⟩ := kg5 BK294) | (go_at_call 147; (with_reducible refine (impl_up.calls a0_1 (wrap64 (8 * t295)) t297 _ A3.out).mono ?_); rintro e w' ⟨rfl, ⟨nd, rfl⟩⟩; (try exact zD)) | (go_at_call 147; (with_reducible refine (impl_up.calls a0_2 (wrap64 (8 * t296)) t298 _ A4.out).mono ?_); rintro e w' ⟨rfl, ⟨nd, rfl⟩⟩; (try exact zD)))
 go_ret2
 exact ⟨zR, zH⟩

theorem iUnits_f {p w h r : Int} {l : List S42} (hl : l.length ≤ 1048576) (hb : frameB p w h r l = true) : Ev (fun k => impl_Frame_units.f k p w h r l) (unitsI w h l) := by
  obtain ⟨m1, m2⟩ := frame_most hb
  unfold impl_Frame_units.f unitsI
  refine evBind (iMost_f p w h r l hl) ?_
  rw [w64 (x := 8 * (mostI l).1) (by omega) (by omega), w64 (x := 8 * (mostI l).2) (by omega) (by omega)]
  refine evBind (evConst (iUp_f _ _ (by omega))) (evBind (evConst (iUp_f _ _ (by omega))) (Ev.now _))

/-! ### impl_Frame_blocks: function 109 -/
def impl_Frame_blocks.f (k : Nat) (a0_0 : Int) (a0_1 : Int) (a0_2 : Int) (a0_3 : Int) (l0_4 : List (S42)) (a1 : Int) : Option (Int × Int) := (impl_Frame_units.f k a0_0 a0_1 a0_2 a0_3 l0_4).bind fun bt300 => (if 0 ≤ a1 then (if a1 < (l0_4.length : Int) then (some (wrap64 (bt300.1 * ((rd_T42 l0_4 a1).f1)), wrap64 (bt300.2 * ((rd_T42 l0_4 a1).f2)))) else (none)) else (none))
set_option maxHeartbeats 8000000 in
set_option maxRecDepth 100000 in
theorem impl_Frame_blocks.calls (k : Nat) (a0_0 : Int) (a0_1 : Int) (a0_2 : Int) (a0_3 : Int) (A0_4 : Option Addr) (c0_4 : Nat) (l0_4 : List (S42)) (a1 : Int) (r1 : Int) (r2 : Int) (w : World) (hr0_4 : Kd.C k42 w A0_4 l0_4.length l0_4) (hc0_4 : l0_4.length ≤ c0_4) (h : impl_Frame_blocks.f k a0_0 a0_1 a0_2 a0_3 l0_4 a1 = some (r1, r2)) :
  Calls Try.prog 109 #[.agg #[.int .i64 a0_0, .int .i64 a0_1, .int .i64 a0_2, .int .i64 a0_3, .slice A0_4 l0_4.length c0_4], .int .i64 a1] w fun e w' => e = .returned (.tuple #[.int .i64 r1, .int .i64 r2]) ∧ Below w.heap.size w w' := by
 have hu45 := Try.underlying45
 have HR0_4 := aM hr0_4
 have HC0_4 := aM hc0_4
 clear hr0_4 hc0_4
 have HB := aM (Below.refl w.heap.size w)
 have H : ((impl_Frame_units.f k a0_0 a0_1 a0_2 a0_3 l0_4).bind fun bt300 => (if 0 ≤ a1 then (if a1 < (l0_4.length : Int) then (some (wrap64 (bt300.1 * ((rd_T42 l0_4 a1).f1)), wrap64 (bt300.2 * ((rd_T42 l0_4 a1).f2)))) else (none)) else (none))) = some (r1, r2) := h
 clear h
 replace H := oB H
 obtain ⟨⟨t300, t301⟩, A30, H⟩ := H
 replace H : (if 0 ≤ a1 then (if a1 < (l0_4.length : Int) then (some (wrap64 (t300 * ((rd_T42 l0_4 a1).f1)), wrap64 (t301 * ((rd_T42 l0_4 a1).f2)))) else (none)) else (none)) = some (r1, r2) := H
 have A3 := aM A30
 clear A30
 by_cases c4 : 0 ≤ a1
 ·rw [if_pos c4] at H
  have c4b0 : decide (0 ≤ a1) = true := decide_eq_true c4
  clear c4
  by_cases c5 : a1 < (l0_4.length : Int)
  ·rw [if_pos c5] at H
   have c5b0 : decide (a1 < (l0_4.length : Int)) = true := decide_eq_true c5
   clear c5
   simp only [Option.some.injEq, Prod.mk.injEq] at H
   obtain ⟨rfl, rfl⟩ := H
   go_enter Try.func109, Try.ntmps109
   repeat (go_wp2_with (first | ((with_reducible refine gate_dst (N := 2) rfl ?_); refine box_event ?hg (N := 2) ?hd (cs := #[.int .i64 a0_0, .int .i64 a0_1, .int .i64 a0_2, .int .i64 a0_3, .slice A0_4 l0_4.length c0_4]) (t := 45) ?hr ?_; (case hd => rfl); (case hg => rfl); (case hr => first | (go_simp; done) | (go_simp; rfl)); intro gb299 hg w6 hbox hb; have BK299 := aM hbox; have GW299 := aM (zG hg : w.heap.size ≤ gb299); have GE299 := aM (zG hg : w.heap.size ≤ gb299); replace HB := cH HB hb; clear hb hbox hg; obtain ⟨hcz7_0, hcz7_1, hcz7_2, hcz7_3, hcz7_4⟩ := kk5 BK299; obtain ⟨hfz7_0, hfz7_1, hfz7_2, hfz7_3, hfz7_4⟩ := kg5 BK299) | (go_at_call 132; (with_reducible refine (impl_Frame_units.calls k a0_0 a0_1 a0_2 a0_3 _ _ l0_4 t300 t301 _ ?side1 ?side2 A3.out).mono ?_); (case side1 => exact zC (Kd.C_below HR0_4.out HB.out)); (case side2 => exact HC0_4.out); rintro e w8 ⟨rfl, hb⟩; replace BK299 := cB BK299 hb; replace HB := cH HB hb; (try clear hb); obtain ⟨hcz9_0, hcz9_1, hcz9_2, hcz9_3, hcz9_4⟩ := kk5 BK299; obtain ⟨hfz9_0, hfz9_1, hfz9_2, hfz9_3, hfz9_4⟩ := kg5 BK299; have p302 : 0 ≤ (a1 : Int) := zA; have q302 : a1 < (l0_4.length : Int) := zA; obtain ⟨ad302, e302, hx302_0, hx302_1, hx302_2, hx302_3⟩ := at_T42 HR0_4.out a1 p302 q302; cases e302; replace hx302_0 := hX HB hx302_0; replace hx302_1 := hX HB hx302_1; replace hx302_2 := hX HB hx302_2; replace hx302_3 := hX HB hx302_3; replace p302 := eq_true p302; replace q302 := eq_true q302; have p303 : 0 ≤ (a1 : Int) := zA; have q303 : a1 < (l0_4.length : Int) := zA; obtain ⟨ad303, e303, hx303_0, hx303_1, hx303_2, hx303_3⟩ := at_T42 HR0_4.out a1 p303 q303; obtain rfl : ad302 = ad303 := (by injection e303); replace hx303_0 := hX HB hx303_0; replace hx303_1 := hX HB hx303_1; replace hx303_2 := hX HB hx303_2; replace hx303_3 := hX HB hx303_3; replace p303 := eq_true p303; replace q303 := eq_true q303)); go_quiet (fail))
   try go_wp2_with (first | ((with_reducible refine gate_dst (N := 2) rfl ?_); refine box_event ?hg (N := 2) ?hd (cs := #[.int .i64 a0_0, .int .i64 a0_1, .int .i64 a0_2, .int .i64 a0_3, .slice A0_4 l0_4.length c0_4]) (t := 45) ?hr ?_; (case hd => rfl); (case hg => rfl); (case hr => first | (go_simp; done) | (go_simp; rfl)); intro gb299 hg w6 hbox hb; have BK299 := aM hbox; have GW299 := aM (zG hg : w.heap.size ≤ gb299); have GE299 := aM (zG hg : w.heap.size ≤ gb299); replace HB := cH HB hb; clear hb hbox hg; obtain ⟨hcz7_0, hcz7_1, hcz7_2, hcz7_3, hcz7_4⟩ := kk5 BK299; obtain ⟨hfz7_0, hfz7_1, hfz7_2, hfz7_3, hfz7_4⟩ := kg5 BK299) | (go_at_call 132; (with_reducible refine (impl_Frame_units.calls k a0_0 a0_1 a0_2 a0_3 _ _ l0_4 t300 t301 _ ?side1 ?side2 A3.out).mono ?_); (case side1 => exact zC (Kd.C_below HR0_4.out HB.out)); (case side2 => exact HC0_4.out); rintro e w8 ⟨rfl, hb⟩; replace BK299 := cB BK299 hb; replace HB := cH HB hb; (try clear hb); obtain ⟨hcz9_0, hcz9_1, hcz9_2, hcz9_3, hcz9_4⟩ := kk5 BK299; obtain ⟨hfz9_0, hfz9_1, hfz9_2, hfz9_3, hfz9_4⟩ := kg5 BK299; have p302 : 0 ≤ (a1 : Int) := zA; have q302 : a1 < (l0_4.length : Int) := zA; obtain ⟨ad302, e302, hx302_0, hx302_1, hx302_2, hx302_3⟩ := at_T42 HR0_4.out a1 p302 q302; cases e302; replace hx302_0 := hX HB hx302_0; replace hx302_1 := hX HB hx302_1; replace hx302_2 := hX HB hx302_2; replace hx302_3 := hX HB hx302_3; replace p302 := eq_true p302; replace q302 := eq_true q302; have p303 : 0 ≤ (a1 : Int) := zA; have q303 : a1 < (l0_4.length : Int) := zA; obtain ⟨ad303, e303, hx303_0, hx303_1, hx303_2, hx303_3⟩ := at_T42 HR0_4.out a1 p303 q303; obtain rfl : ad302 = ad303 := (by injection e303); replace hx303_0 := hX HB hx303_0; replace hx303_1 := hX HB hx303_1; replace hx303_2 := hX HB hx303_2; replace hx303_3 := hX HB hx303_3; replace p303 := eq_true p303; replace q303 := eq_true q303))
   go_ret2
   exact ⟨zR, zH⟩
  ·rw [if_neg c5] at H
   exact absurd H (by simp)
 ·rw [if_neg c4] at H
  exact absurd H (by simp)

theorem iBlocks_f {p w h r : Int} {l : List S42} (hl : l.length ≤ 1048576) (hb : frameB p w h r l = true) (c : Int) (h0 : 0 ≤ c) (h1 : c < (l.length : Int)) : Ev (fun k => impl_Frame_blocks.f k p w h r l c) (blocksI w h l c) := by
  unfold impl_Frame_blocks.f
  exact evBind (iUnits_f hl hb) (evPos h0 (evPos h1 (Ev.now _)))

/-! ### impl_Frame_size: function 148 -/
def impl_Frame_size.f (k : Nat) (a0_0 : Int) (a0_1 : Int) (a0_2 : Int) (a0_3 : Int) (l0_4 : List (S42)) (a1 : Int) : Option (Int × Int) := (impl_Frame_most.f k a0_0 a0_1 a0_2 a0_3 l0_4).bind fun bt305 => (if 0 ≤ a1 then (if a1 < (l0_4.length : Int) then ((impl_up.f (wrap64 (a0_1 * ((rd_T42 l0_4 a1).f1))) bt305.1).bind fun t308 => ((impl_up.f (wrap64 (a0_2 * ((rd_T42 l0_4 a1).f2))) bt305.2).bind fun t310 => (some (t308, t310)))) else (none)) else (none))
set_option maxHeartbeats 8000000 in
set_option maxRecDepth 100000 in
theorem impl_Frame_size.calls (k : Nat) (a0_0 : Int) (a0_1 : Int) (a0_2 : Int) (a0_3 : Int) (A0_4 : Option Addr) (c0_4 : Nat) (l0_4 : List (S42)) (a1 : Int) (r1 : Int) (r2 : Int) (w : World) (hr0_4 : Kd.C k42 w A0_4 l0_4.length l0_4) (hc0_4 : l0_4.length ≤ c0_4) (h : impl_Frame_size.f k a0_0 a0_1 a0_2 a0_3 l0_4 a1 = some (r1, r2)) :
  Calls Try.prog 148 #[.agg #[.int .i64 a0_0, .int .i64 a0_1, .int .i64 a0_2, .int .i64 a0_3, .slice A0_4 l0_4.length c0_4], .int .i64 a1] w fun e w' => e = .returned (.tuple #[.int .i64 r1, .int .i64 r2]) ∧ Below w.heap.size w w' := by
 have hu45 := Try.underlying45
 have HR0_4 := aM hr0_4
 have HC0_4 := aM hc0_4
 clear hr0_4 hc0_4
 have HB := aM (Below.refl w.heap.size w)
 have H : ((impl_Frame_most.f k a0_0 a0_1 a0_2 a0_3 l0_4).bind fun bt305 => (if 0 ≤ a1 then (if a1 < (l0_4.length : Int) then ((impl_up.f (wrap64 (a0_1 * ((rd_T42 l0_4 a1).f1))) bt305.1).bind fun t308 => ((impl_up.f (wrap64 (a0_2 * ((rd_T42 l0_4 a1).f2))) bt305.2).bind fun t310 => (some (t308, t310)))) else (none)) else (none))) = some (r1, r2) := h
 clear h
 replace H := oB H
 obtain ⟨⟨t305, t306⟩, A30, H⟩ := H
 replace H : (if 0 ≤ a1 then (if a1 < (l0_4.length : Int) then ((impl_up.f (wrap64 (a0_1 * ((rd_T42 l0_4 a1).f1))) t305).bind fun t308 => ((impl_up.f (wrap64 (a0_2 * ((rd_T42 l0_4 a1).f2))) t306).bind fun t310 => (some (t308, t310)))) else (none)) else (none)) = some (r1, r2) := H
 have A3 := aM A30
 clear A30
 by_cases c4 : 0 ≤ a1
 ·rw [if_pos c4] at H
  have c4b0 : decide (0 ≤ a1) = true := decide_eq_true c4
  clear c4
  by_cases c5 : a1 < (l0_4.length : Int)
  ·rw [if_pos c5] at H
   have c5b0 : decide (a1 < (l0_4.length : Int)) = true := decide_eq_true c5
   clear c5
   obtain ⟨t308, A6, H⟩ := oH H
   obtain ⟨t310, A7, H⟩ := oH H
   simp only [Option.some.injEq, Prod.mk.injEq] at H
   obtain ⟨rfl, rfl⟩ := H
   go_enter Try.func148, Try.ntmps148
   go_wp2_with (first | ((with_reducible refine gate_dst (N := 2) rfl ?_); refine box_event ?hg (N := 2) ?hd (cs := #[.int .i64 a0_0, .int .i64 a0_1, .int .i64 a0_2, .int .i64 a0_3, .slice A0_4 l0_4.length c0_4]) (t := 45) ?hr ?_; (case hd => rfl); (case hg => rfl); (case hr => first | (go_simp; done) | (go_simp; rfl)); intro gb304 hg w8 hbox hb; have BK304 := aM hbox; have GW304 := aM (zG hg : w.heap.size ≤ gb304); have GE304 := aM (zG hg : w.heap.size ≤ gb304); replace HB := cH HB hb; clear hb hbox hg; obtain ⟨hcz9_0, hcz9_1, hcz9_2, hcz9_3, hcz9_4⟩ := kk5 BK304; obtain ⟨hfz9_0, hfz9_1, hfz9_2, hfz9_3, hfz9_4⟩ := kg5 BK304) | (go_at_call 146; (with_reducible refine (impl_Frame_most.calls k a0_0 a0_1 a0_2 a0_3 _ _ l0_4 t305 t306 _ ?side1 ?side2 A3.out).mono ?_); (case side1 => exact zC (Kd.C_below HR0_4.out HB.out)); (case side2 => exact HC0_4.out); rintro e w10 ⟨rfl, hb⟩; replace BK304 := cB BK304 hb; replace HB := cH HB hb; (try clear hb); obtain ⟨hcz11_0, hcz11_1, hcz11_2, hcz11_3, hcz11_4⟩ := kk5 BK304; obtain ⟨hfz11_0, hfz11_1, hfz11_2, hfz11_3, hfz11_4⟩ := kg5 BK304; have p307 : 0 ≤ (a1 : Int) := zA; have q307 : a1 < (l0_4.length : Int) := zA; obtain ⟨ad307, e307, hx307_0, hx307_1, hx307_2, hx307_3⟩ := at_T42 HR0_4.out a1 p307 q307; cases e307; replace hx307_0 := hX HB hx307_0; replace hx307_1 := hX HB hx307_1; replace hx307_2 := hX HB hx307_2; replace hx307_3 := hX HB hx307_3; replace p307 := eq_true p307; replace q307 := eq_true q307) | (go_at_call 147; (with_reducible refine (impl_up.calls (wrap64 (a0_1 * ((rd_T42 l0_4 a1).f1))) t305 t308 _ A6.out).mono ?_); rintro e w' ⟨rfl, ⟨nd, rfl⟩⟩; (try exact zD); have p309 : 0 ≤ (a1 : Int) := zA; have q309 : a1 < (l0_4.length : Int) := zA; obtain ⟨ad309, e309, hx309_0, hx309_1, hx309_2, hx309_3⟩ := at_T42 HR0_4.out a1 p309 q309; obtain rfl : ad307 = ad309 := (by injection e309); replace hx309_0 := hX HB hx309_0; replace hx309_1 := hX HB hx309_1; replace hx309_2 := hX HB hx309_2; replace hx309_3 := hX HB hx309_3; replace p309 := eq_true p309; replace q309 := eq_true q309) | (go_at_call 147; (with_reducible refine (impl_up.calls (wrap64 (a0_2 * ((rd_T42 l0_4 a1).f2))) t306 t310 _ A7.out).mono ?_); rintro e w' ⟨rfl, ⟨nd, rfl⟩⟩; (try exact zD)))
   try (have p309 : 0 ≤ (a1 : Int) := zA; have q309 : a1 < (l0_4.length : Int) := zA; obtain ⟨ad309, e309, hx309_0, hx309_1, hx309_2, hx309_3⟩ := at_T42 HR0_4.out a1 p309 q309; obtain rfl : ad307 = ad309 := (by injection e309); replace hx309_0 := hX HB hx309_0; replace hx309_1 := hX HB hx309_1; replace hx309_2 := hX HB hx309_2; replace hx309_3 := hX HB hx309_3; replace p309 := eq_true p309; replace q309 := eq_true q309)
   repeat (go_quiet (first | (go_at_call 147; (first | (with_reducible refine (impl_up.calls (wrap64 (a0_1 * ((rd_T42 l0_4 a1).f1))) t305 t308 _ A6.out).mono ?_) | ((simp only [i64_w]); (with_reducible refine (impl_up.calls (wrap64 (a0_1 * ((rd_T42 l0_4 a1).f1))) t305 t308 _ A6.out).mono ?_)) | (refine (impl_up.calls (wrap64 (a0_1 * ((rd_T42 l0_4 a1).f1))) t305 t308 _ A6.out).mono ?_)); rintro e w' ⟨rfl, ⟨nd, rfl⟩⟩; (try exact zD); all_goals (have p309 : 0 ≤ (a1 : Int) := zA; have q309 : a1 < (l0_4.length : Int) := zA; obtain ⟨ad309, e309, hx309_0, hx309_1, hx309_2, hx309_3⟩ := at_T42 HR0_4.out a1 p309 q309; obtain rfl : ad307 = ad309 := (by injection e309); replace hx309_0 := hX HB hx309_0; replace hx309_1 := hX HB hx309_1; replace hx309_2 := hX HB hx309_2; replace hx309_3 := hX HB hx309_3; replace p309 := eq_true p309; replace q309 := eq_true q309)) | (go_at_call 147; (first | (with_reducible refine (impl_up.calls (wrap64 (a0_2 * ((rd_T42 l0_4 a1).f2))) t306 t310 _ A7.out).mono ?_) | ((simp only [i64_w]); (with_reducible refine (impl_up.calls (wrap64 (a0_2 * ((rd_T42 l0_4 a1).f2))) t306 t310 _ A7.out).mono ?_)) | (refine (impl_up.calls (wrap64 (a0_2 * ((rd_T42 l0_4 a1).f2))) t306 t310 _ A7.out).mono ?_)); rintro e w' ⟨rfl, ⟨nd, rfl⟩⟩; (try exact zD))); try go_wp2_with (first | ((with_reducible refine gate_dst (N := 2) rfl ?_); refine box_event ?hg (N := 2) ?hd (cs := #[.int .i64 a0_0, .int .i64 a0_1, .int .i64 a0_2, .int .i64 a0_3, .slice A0_4 l0_4.length c0_4]) (t := 45) ?hr ?_; (case hd => rfl); (case hg => rfl); (case hr => first | (go_simp; done) | (go_simp; rfl)); intro gb304 hg w8 hbox hb; have BK304 := aM hbox; have GW304 := aM (zG hg : w.heap.size ≤ gb304); have GE304 := aM (zG hg : w.heap.size ≤ gb304); replace HB := cH HB hb; clear hb hbox hg; obtain ⟨hcz9_0, hcz9_1, hcz9_2, hcz9_3, hcz9_4⟩ := kk5 BK304; obtain ⟨hfz9_0, hfz9_1, hfz9_2, hfz9_3, hfz9_4⟩ := kg5 BK304) | (go_at_call 146; (with_reducible refine (impl_Frame_most.calls k a0_0 a0_1 a0_2 a0_3 _ _ l0_4 t305 t306 _ ?side1 ?side2 A3.out).mono ?_); (case side1 => exact zC (Kd.C_below HR0_4.out HB.out)); (case side2 => exact HC0_4.out); rintro e w10 ⟨rfl, hb⟩; replace BK304 := cB BK304 hb; replace HB := cH HB hb; (try clear hb); obtain ⟨hcz11_0, hcz11_1, hcz11_2, hcz11_3, hcz11_4⟩ := kk5 BK304; obtain ⟨hfz11_0, hfz11_1, hfz11_2, hfz11_3, hfz11_4⟩ := kg5 BK304; have p307 : 0 ≤ (a1 : Int) := zA; have q307 : a1 < (l0_4.length : Int) := zA; obtain ⟨ad307, e307, hx307_0, hx307_1, hx307_2, hx307_3⟩ := at_T42 HR0_4.out a1 p307 q307; cases e307; replace hx307_0 := hX HB hx307_0; replace hx307_1 := hX HB hx307_1; replace hx307_2 := hX HB hx307_2; replace hx307_3 := hX HB hx307_3; replace p307 := eq_true p307; replace q307 := eq_true q307) | (go_at_call 147; (first | (with_reducible refine (impl_up.calls (wrap64 (a0_1 * ((rd_T42 l0_4 a1).f1))) t305 t308 _ A6.out).mono ?_) | ((simp only [i64_w]); (with_reducible refine (impl_up.calls (wrap64 (a0_1 * ((rd_T42 l0_4 a1).f1))) t305 t308 _ A6.out).mono ?_)) | (refine (impl_up.calls (wrap64 (a0_1 * ((rd_T42 l0_4 a1).f1))) t305 t308 _ A6.out).mono ?_)); rintro e w' ⟨rfl, ⟨nd, rfl⟩⟩; (try exact zD); all_goals (have p309 : 0 ≤ (a1 : Int) := zA; have q309 : a1 < (l0_4.length : Int) := zA; obtain ⟨ad309, e309, hx309_0, hx309_1, hx309_2, hx309_3⟩ := at_T42 HR0_4.out a1 p309 q309; obtain rfl : ad307 = ad309 := (by injection e309); replace hx309_0 := hX HB hx309_0; replace hx309_1 := hX HB hx309_1; replace hx309_2 := hX HB hx309_2; replace hx309_3 := hX HB hx309_3; replace p309 := eq_true p309; replace q309 := eq_true q309)) | (go_at_call 147; (first | (with_reducible refine (impl_up.calls (wrap64 (a0_2 * ((rd_T42 l0_4 a1).f2))) t306 t310 _ A7.out).mono ?_) | ((simp only [i64_w]); (with_reducible refine (impl_up.calls (wrap64 (a0_2 * ((rd_T42 l0_4 a1).f2))) t306 t310 _ A7.out).mono ?_)) | (refine (impl_up.calls (wrap64 (a0_2 * ((rd_T42 l0_4 a1).f2))) t306 t310 _ A7.out).mono ?_)); rintro e w' ⟨rfl, ⟨nd, rfl⟩⟩; (try exact zD))))
   go_ret2
   exact ⟨zR, zH⟩
  ·rw [if_neg c5] at H
   exact absurd H (by simp)
 ·rw [if_neg c4] at H
  exact absurd H (by simp)

theorem iSize_f {p w h r : Int} {l : List S42} (hl : l.length ≤ 1048576) (hb : frameB p w h r l = true) (c : Int) (h0 : 0 ≤ c) (h1 : c < (l.length : Int)) : Ev (fun k => impl_Frame_size.f k p w h r l c) (sizeI w h l c) := by
  obtain ⟨m1, m2⟩ := frame_most hb
  unfold impl_Frame_size.f sizeI
  exact evBind (iMost_f p w h r l hl) (evPos h0 (evPos h1 (evBind (evConst (iUp_f _ _ (by omega))) (evBind (evConst (iUp_f _ _ (by omega))) (Ev.now _)))))

/-! ### impl_Frame_needed: function 133 -/
def impl_Frame_needed.f (k : Nat) (a0_0 : Int) (a0_1 : Int) (a0_2 : Int) (a0_3 : Int) (l0_4 : List (S42)) (a1 : Int) : Option (Int × Int) := (impl_Frame_size.f k a0_0 a0_1 a0_2 a0_3 l0_4 a1).bind fun bt312 => ((impl_up.f bt312.1 8).bind fun t314 => ((impl_up.f bt312.2 8).bind fun t315 => (some (t314, t315))))
set_option maxHeartbeats 8000000 in
set_option maxRecDepth 100000 in
theorem impl_Frame_needed.calls (k : Nat) (a0_0 : Int) (a0_1 : Int) (a0_2 : Int) (a0_3 : Int) (A0_4 : Option Addr) (c0_4 : Nat) (l0_4 : List (S42)) (a1 : Int) (r1 : Int) (r2 : Int) (w : World) (hr0_4 : Kd.C k42 w A0_4 l0_4.length l0_4) (hc0_4 : l0_4.length ≤ c0_4) (h : impl_Frame_needed.f k a0_0 a0_1 a0_2 a0_3 l0_4 a1 = some (r1, r2)) :
  Calls Try.prog 133 #[.agg #[.int .i64 a0_0, .int .i64 a0_1, .int .i64 a0_2, .int .i64 a0_3, .slice A0_4 l0_4.length c0_4], .int .i64 a1] w fun e w' => e = .returned (.tuple #[.int .i64 r1, .int .i64 r2]) ∧ Below w.heap.size w w' := by
 have hu45 := Try.underlying45
 have HR0_4 := aM hr0_4
 have HC0_4 := aM hc0_4
 clear hr0_4 hc0_4
 have HB := aM (Below.refl w.heap.size w)
 have H : ((impl_Frame_size.f k a0_0 a0_1 a0_2 a0_3 l0_4 a1).bind fun bt312 => ((impl_up.f bt312.1 8).bind fun t314 => ((impl_up.f bt312.2 8).bind fun t315 => (some (t314, t315))))) = some (r1, r2) := h
 clear h
 replace H := oB H
 obtain ⟨⟨t312, t313⟩, A30, H⟩ := H
 replace H : ((impl_up.f t312 8).bind fun t314 => ((impl_up.f t313 8).bind fun t315 => (some (t314, t315)))) = some (r1, r2) := H
 have A3 := aM A30
 clear A30
 obtain ⟨t314, A4, H⟩ := oH H
 obtain ⟨t315, A5, H⟩ := oH H
 simp only [Option.some.injEq, Prod.mk.injEq] at H
 obtain ⟨rfl, rfl⟩ := H
 go_enter Try.func133, Try.ntmps133
 go_wp2_with (first | ((with_reducible refine gate_dst (N := 2) rfl ?_); refine box_event ?hg (N := 2) ?hd (cs := #[.int .i64 a0_0, .int .i64 a0_1, .int .i64 a0_2, .int .i64 a0_3, .slice A0_4 l0_4.length c0_4]) (t := 45) ?hr ?_; (case hd => rfl); (case hg => rfl); (case hr => first | (go_simp; done) | (go_simp; rfl)); intro gb311 hg w6 hbox hb; have BK311 := aM hbox; have GW311 := aM (zG hg : w.heap.size ≤ gb311); have GE311 := aM (zG hg : w.heap.size ≤ gb311); replace HB := cH HB hb; clear hb hbox hg; obtain ⟨hcz7_0, hcz7_1, hcz7_2, hcz7_3, hcz7_4⟩ := kk5 BK311; obtain ⟨hfz7_0, hfz7_1, hfz7_2, hfz7_3, hfz7_4⟩ := kg5 BK311) | (go_at_call 148; (with_reducible refine (impl_Frame_size.calls k a0_0 a0_1 a0_2 a0_3 _ _ l0_4 a1 t312 t313 _ ?side1 ?side2 A3.out).mono ?_); (case side1 => exact zC (Kd.C_below HR0_4.out HB.out)); (case side2 => exact HC0_4.out); rintro e w8 ⟨rfl, hb⟩; replace BK311 := cB BK311 hb; replace HB := cH HB hb; (try clear hb)) | ((with_reducible refine gate_callee (f := 147) rfl ?_); refine zGl (some 15) Try.func147 #[.int .i64 t312, .int .i64 8] ?_; (with_reducible refine (impl_up.calls t312 8 t314 _ A4.out).mono ?_); rintro e w' ⟨rfl, ⟨nd, rfl⟩⟩; refine ⟨_, rfl, ?_⟩) | ((with_reducible refine gate_callee (f := 147) rfl ?_); refine zGl (some 17) Try.func147 #[.int .i64 t313, .int .i64 8] ?_; (with_reducible refine (impl_up.calls t313 8 t315 _ A5.out).mono ?_); rintro e w' ⟨rfl, ⟨nd, rfl⟩⟩; refine ⟨_, rfl, ?_⟩))
 go_ret2
 exact ⟨zR, zH⟩

theorem iNeed_f {p w h r : Int} {l : List S42} (hl : l.length ≤ 1048576) (hb : frameB p w h r l = true) (c : Int) (h0 : 0 ≤ c) (h1 : c < (l.length : Int)) : Ev (fun k => impl_Frame_needed.f k p w h r l c) (needI w h l c) := by
  unfold impl_Frame_needed.f needI
  exact evBind (iSize_f hl hb c h0 h1) (evBind (evConst (iUp_f _ _ (by omega))) (evBind (evConst (iUp_f _ _ (by omega))) (Ev.now _)))

/-! ### impl_Frame_isHidden: function 110 -/
def impl_Frame_isHidden.f (k : Nat) (a0_0 : Int) (a0_1 : Int) (a0_2 : Int) (a0_3 : Int) (l0_4 : List (S42)) (a1 : Int) (a2 : Int) (a3 : Int) : Option (Bool) := (impl_Frame_needed.f k a0_0 a0_1 a0_2 a0_3 l0_4 a1).bind fun bt317 => (if a2 ≥ bt317.2 then (some true) else (some (decide (a3 ≥ bt317.1))))
set_option maxHeartbeats 8000000 in
set_option maxRecDepth 100000 in
theorem impl_Frame_isHidden.calls (k : Nat) (a0_0 : Int) (a0_1 : Int) (a0_2 : Int) (a0_3 : Int) (A0_4 : Option Addr) (c0_4 : Nat) (l0_4 : List (S42)) (a1 : Int) (a2 : Int) (a3 : Int) (r : Bool) (w : World) (hr0_4 : Kd.C k42 w A0_4 l0_4.length l0_4) (hc0_4 : l0_4.length ≤ c0_4) (h : impl_Frame_isHidden.f k a0_0 a0_1 a0_2 a0_3 l0_4 a1 a2 a3 = some r) :
  Calls Try.prog 110 #[.agg #[.int .i64 a0_0, .int .i64 a0_1, .int .i64 a0_2, .int .i64 a0_3, .slice A0_4 l0_4.length c0_4], .int .i64 a1, .int .i64 a2, .int .i64 a3] w fun e w' => e = .returned (.bool r) ∧ Below w.heap.size w w' := by
 have hu45 := Try.underlying45
 have HR0_4 := aM hr0_4
 have HC0_4 := aM hc0_4
 clear hr0_4 hc0_4
 have HB := aM (Below.refl w.heap.size w)
 have H : ((impl_Frame_needed.f k a0_0 a0_1 a0_2 a0_3 l0_4 a1).bind fun bt317 => (if a2 ≥ bt317.2 then (some true) else (some (decide (a3 ≥ bt317.1))))) = some r := h
 clear h
 replace H := oB H
 obtain ⟨⟨t317, t318⟩, A50, H⟩ := H
 replace H : (if a2 ≥ t318 then (some true) else (some (decide (a3 ≥ t317)))) = some r := H
 have A5 := aM A50
 clear A50
 by_cases c6 : a2 ≥ t318
 ·rw [if_pos c6] at H
  have c6b0 : decide (t318 ≤ a2) = true := decide_eq_true c6
  clear c6
  obtain rfl := Option.some.inj H
  go_enter Try.func110, Try.ntmps110
  go_wp2_with (first | ((with_reducible refine gate_dst (N := 4) rfl ?_); refine box_event ?hg (N := 4) ?hd (cs := #[.int .i64 a0_0, .int .i64 a0_1, .int .i64 a0_2, .int .i64 a0_3, .slice A0_4 l0_4.length c0_4]) (t := 45) ?hr ?_; (case hd => rfl); (case hg => rfl); (case hr => first | (go_simp; done) | (go_simp; rfl)); intro gb316 hg w7 hbox hb; have BK316 := aM hbox; have GW316 := aM (zG hg : w.heap.size ≤ gb316); have GE316 := aM (zG hg : w.heap.size ≤ gb316); replace HB := cH HB hb; clear hb hbox hg; obtain ⟨hcz8_0, hcz8_1, hcz8_2, hcz8_3, hcz8_4⟩ := kk5 BK316; obtain ⟨hfz8_0, hfz8_1, hfz8_2, hfz8_3, hfz8_4⟩ := kg5 BK316) | (go_at_call 133; (with_reducible refine (impl_Frame_needed.calls k a0_0 a0_1 a0_2 a0_3 _ _ l0_4 a1 t317 t318 _ ?side1 ?side2 A5.out).mono ?_); (case side1 => exact zC (Kd.C_below HR0_4.out HB.out)); (case side2 => exact HC0_4.out); rintro e w9 ⟨rfl, hb⟩; replace BK316 := cB BK316 hb; replace HB := cH HB hb; (try clear hb)))
  go_ret
  exact ⟨zR, zH⟩
 ·rw [if_neg c6] at H
  have c6b0 : decide (t318 ≤ a2) = false := decide_eq_false c6
  clear c6
  obtain rfl := Option.some.inj H
  go_enter Try.func110, Try.ntmps110
  go_wp2_with (first | ((with_reducible refine gate_dst (N := 4) rfl ?_); refine box_event ?hg (N := 4) ?hd (cs := #[.int .i64 a0_0, .int .i64 a0_1, .int .i64 a0_2, .int .i64 a0_3, .slice A0_4 l0_4.length c0_4]) (t := 45) ?hr ?_; (case hd => rfl); (case hg => rfl); (case hr => first | (go_simp; done) | (go_simp; rfl)); intro gb316 hg w10 hbox hb; have BK316 := aM hbox; have GW316 := aM (zG hg : w.heap.size ≤ gb316); have GE316 := aM (zG hg : w.heap.size ≤ gb316); replace HB := cH HB hb; clear hb hbox hg; obtain ⟨hcz11_0, hcz11_1, hcz11_2, hcz11_3, hcz11_4⟩ := kk5 BK316; obtain ⟨hfz11_0, hfz11_1, hfz11_2, hfz11_3, hfz11_4⟩ := kg5 BK316) | (go_at_call 133; (with_reducible refine (impl_Frame_needed.calls k a0_0 a0_1 a0_2 a0_3 _ _ l0_4 a1 t317 t318 _ ?side1 ?side2 A5.out).mono ?_); (case side1 => exact zC (Kd.C_below HR0_4.out HB.out)); (case side2 => exact HC0_4.out); rintro e w12 ⟨rfl, hb⟩; replace BK316 := cB BK316 hb; replace HB := cH HB hb; (try clear hb)))
  go_ret
  exact ⟨zR, zH⟩

theorem iHidden_f {p w h r : Int} {l : List S42} (hl : l.length ≤ 1048576) (hb : frameB p w h r l = true) (c row col : Int) (h0 : 0 ≤ c) (h1 : c < (l.length : Int)) : Ev (fun k => impl_Frame_isHidden.f k p w h r l c row col) (hiddenB w h l c row col) := by
  unfold impl_Frame_isHidden.f hiddenB
  refine evBind (iNeed_f hl hb c h0 h1) (evIf (fun hh => ?_) (fun hh => ?_))
  · rw [decide_eq_true hh, Bool.true_or]; exact Ev.now _
  · rw [decide_eq_false hh, Bool.false_or]; exact Ev.now _

end Go.Proofs.Ythajjjpblkhmmaa.CB
