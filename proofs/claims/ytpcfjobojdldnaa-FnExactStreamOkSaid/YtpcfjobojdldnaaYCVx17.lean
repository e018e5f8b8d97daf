/- Functions that a law of this seat reaches: written by a program of this session (wip/xprint.py), and by hand. -/
import Derived.Test.YtpcfjobojdldnaaYMac
import Derived.Test.YtpcfjobojdldnaaYCVx0
import Derived.Test.YtpcfjobojdldnaaYCVx1
import Derived.Test.YtpcfjobojdldnaaYCVx6
import Derived.Test.YtpcfjobojdldnaaYCVx9
import Derived.Test.YtpcfjobojdldnaaYCVx11
import Derived.Test.YtpcfjobojdldnaaYCVx14
import Derived.Test.YtpcfjobojdldnaaYCVx15
import Derived.Test.YtpcfjobojdldnaaYCVx16
namespace Go.Proofs.Ytpcfjobojdldnaa.CV
open Go.RowKit Go.Proofs.Ytpcfjobojdldnaa.B Go.Proofs.YtpcfjobojdldnaaW.PrintWords Go.Proofs.YtpcfjobojdldnaaW.PrintLast Go.Proofs.YtpcfjobojdldnaaW.PrintMore
attribute [local go_sem] max2_int min2_int max_two min_two max_three min_three max_four min_four   -- for this text's walks alone
set_option linter.unusedVariables false
set_option linter.unusedSimpArgs false

theorem iCoefs_l1 {p w h r : Int} {l : List S74} (hl : l.length ≤ 1048576) (hb : frameB p w h r l = true) (c : List (List (List Int))) (i : Nat) (hil : i < l.length) (P : List (List Int)) (hPl : P.length ≤ 1048576)
    (A B : Int) (hlen : (P.length : Int) = wrap64 (A * B)) (R : Bool) (hR : Ev (fun n => impl_CoefsOk.l0 n c (c.length : Int) (wrap64 ((i : Int) + 1)) p w h r l) R) :
    ∀ (d k : Nat), k + d = P.length → Ev (fun n => impl_CoefsOk.l1 n i A c (c.length : Int) i P (P.length : Int) k p w h r l) (planeB3 w h l i A P d k && R) := by
  intro d
  induction d with
  | zero =>
    intro k hk
    refine Ev.step (fun n => by rw [impl_CoefsOk.l1]) (evNeg (by omega) ?_)
    rw [planeB3, Bool.true_and]
    exact hR
  | succ d ih =>
    intro k hk
    have hA : ¬ A = 0 := fun e => by rw [e, Int.zero_mul, show wrap64 0 = 0 from w64 (by omega) (by omega)] at hlen; omega
    have hkl : k < P.length := by omega
    refine Ev.step (fun n => by rw [impl_CoefsOk.l1]) (evPos (by omega) (evPos (by omega) (evPos (by omega) ?_)))
    rw [planeB3]
    unfold blockB
    refine evBind (isLevels_f _) (evIf (fun h1 => ?_) (fun h1 => by rw [Bool.eq_false_iff.2 h1]; exact Ev.now _))
    rw [h1, Bool.true_and]
    refine evNeg hA (evBind (iHidden_f hl hb i _ _ (by omega) (by omega)) ?_)
    have hn := ih (k + 1) (by omega)
    rw [w64 (x := (k : Int) + 1) (by omega) (by omega)]
    refine evIf (fun h2 => ?_) (fun h2 => ?_)
    · rw [h2]
      refine evBind (allWithin_f _ 0 0 (by have := nums_len h1; unfold maxLen; omega)) (evIf (fun h3 => ?_) (fun h3 => ?_))
      · rw [h3]; simpa using hn
      · rw [Bool.eq_false_iff.2 h3]; exact Ev.now _
    · rw [Bool.eq_false_iff.2 h2]; simpa using hn
theorem iCoefs_l0 {p w h r : Int} {l : List S74} (hl : l.length ≤ 1048576) (hb : frameB p w h r l = true) (c : List (List (List Int))) (hc : c.length = l.length) (hx : ∀ x ∈ c, BndS 1048576 x) :
    ∀ (d i : Nat), i + d = c.length → Ev (fun n => impl_CoefsOk.l0 n c (c.length : Int) i p w h r l) (planesB w h l c d i) := by
  intro d
  induction d with
  | zero =>
    intro i hi
    refine Ev.step (fun n => by rw [impl_CoefsOk.l0]) (evNeg (by omega) ?_)
    exact Ev.now _
  | succ d ih =>
    intro i hi
    have hic : i < c.length := by omega
    refine Ev.step (fun n => by rw [impl_CoefsOk.l0]) (evPos (by omega) (evPos (by omega) (evPos (by omega) ?_)))
    refine evBind (iBlocks_f hl hb i (by omega) (by omega)) ?_
    rw [planesB]
    refine evIf (fun h1 => ?_) (fun h1 => by rw [decide_eq_false h1]; exact Ev.now _)
    rw [decide_eq_true h1, Bool.true_and]
    refine iCoefs_l1 hl hb c i (by omega) _ ?_ _ _ h1 _ ?_ _ 0 (by omega)
    · rw [rdSSS_nat hic]
      have := (hx _ (List.getElem_mem hic)).1
      omega
    · rw [w64 (by omega) (by omega)]
      exact ih (i + 1) (by omega)
theorem iCoefsOk_f (p w h r : Int) (l : List S74) (hl : l.length ≤ 1048576) (c : List (List (List Int))) (hx : ∀ x ∈ c, BndS 1048576 x) : Ev (fun n => impl_CoefsOk.f n p w h r l c) (coefsB p w h r l c) := by
  unfold impl_CoefsOk.f coefsB
  refine evBind (iFrameOk_f p w h r l hl) (evIf (fun hb => ?_) (fun hb => ?_))
  · rw [hb, Bool.true_and]
    by_cases he : (c.length : Int) = (l.length : Int)
    · rw [decide_eq_true he, Bool.true_and, show ((c.length : Int) != (l.length : Int)) = false from by simp [he]]
      refine Ev.step (fun k => by rw [impl_CoefsOk.j0]) (evNeg (by simp) ?_)
      exact iCoefs_l0 hl hb c (by omega) hx c.length 0 (by omega)
    · rw [decide_eq_false he, Bool.false_and, show ((c.length : Int) != (l.length : Int)) = true from by simp [he]]
      refine Ev.step (fun k => by rw [impl_CoefsOk.j0]) (evPos rfl ?_)
      exact Ev.now _
  · rw [Bool.eq_false_iff.2 hb, Bool.false_and]
    refine Ev.step (fun k => by rw [impl_CoefsOk.j0]) (evPos rfl ?_)
    exact Ev.now _

-- NOT PRINTED: function 85 (impl_Scan_85)

-- NOT PRINTED: function 69 (impl_Scan_69)

/-! ### impl_Frame_has: function 89 -/
def impl_Frame_has.f (k : Nat) (a0_0 : Int) (a0_1 : Int) (a0_2 : Int) (a0_3 : Int) (l0_4 : List (S74)) (a1 : Int) : Option (Bool) := (impl_FrameOk.f k a0_0 a0_1 a0_2 a0_3 l0_4).bind fun t409 => (if t409 = true then ((impl_within.f a1 0 (wrap64 ((l0_4.length : Int) - 1))).bind fun t410 => (some t410)) else (some false))
theorem impl_Frame_has.mono : ∀ a0 a1 a2 a3 a4 a5 k, LeO (impl_Frame_has.f k a0 a1 a2 a3 a4 a5) (impl_Frame_has.f (k + 1) a0 a1 a2 a3 a4 a5) := by
 intro a0 a1 a2 a3 a4 a5 k
 unfold impl_Frame_has.f
 repeat' first
   | (with_reducible exact impl_FrameOk.mono _ _ _ _ _ _)
   | (with_reducible exact LeO.refl _)
   | (with_reducible exact LeO.none _)
   | (with_reducible refine LeO.ite ?_ ?_)
   | (with_reducible refine LeO.bind ?_ (fun _ => ?_))
   | exact impl_FrameOk.mono _ _ _ _ _ _
   | exact LeO.none _
   | refine LeO.ite ?_ ?_
   | refine LeO.bind ?_ (fun _ => ?_)
set_option maxHeartbeats 8000000 in
set_option maxRecDepth 100000 in
theorem impl_Frame_has.calls (k : Nat) (a0_0 : Int) (a0_1 : Int) (a0_2 : Int) (a0_3 : Int) (A0_4 : Option Addr) (c0_4 : Nat) (l0_4 : List (S74)) (a1 : Int) (r : Bool) (w : World) (hr0_4 : Kd.C k74 w A0_4 l0_4.length l0_4) (hc0_4 : l0_4.length ≤ c0_4) (h : impl_Frame_has.f k a0_0 a0_1 a0_2 a0_3 l0_4 a1 = some r) :
  Calls Try.prog 89 #[.agg #[.int .i64 a0_0, .int .i64 a0_1, .int .i64 a0_2, .int .i64 a0_3, .slice A0_4 l0_4.length c0_4], .int .i64 a1] w fun e w' => e = .returned (.bool r) ∧ Below w.heap.size w w' := by
 have hu37 := Try.underlying37
 have HR0_4 := aM hr0_4
 have HC0_4 := aM hc0_4
 clear hr0_4 hc0_4
 have HB := aM (Below.refl w.heap.size w)
 have H : ((impl_FrameOk.f k a0_0 a0_1 a0_2 a0_3 l0_4).bind fun t409 => (if t409 = true then ((impl_within.f a1 0 (wrap64 ((l0_4.length : Int) - 1))).bind fun t410 => (some t410)) else (some false))) = some r := h
 clear h
 obtain ⟨t409, A3, H⟩ := oH H
 by_cases c4 : t409 = true
 ·subst c4
  replace H := iT H
  obtain ⟨t410, A5, H⟩ := oH H
  obtain rfl := Option.some.inj H
  go_enter Try.func89, Try.ntmps89
  go_wp2_with (first | ((with_reducible refine gate_dst (N := 2) rfl ?_); (try (refine gate_guard (by rfl) ?_; dsimp only)); refine box_event ?hg (N := 2) ?hd (cs := #[.int .i64 a0_0, .int .i64 a0_1, .int .i64 a0_2, .int .i64 a0_3, .slice A0_4 l0_4.length c0_4]) (t := 37) ?hr ?_; (case hd => rfl); (case hg => rfl); (case hr => first | (go_simp; done) | (go_simp; rfl)); intro gb408 hg w6 hbox hb; have BK408 := aM hbox; have GW408 := aM (zG hg : w.heap.size ≤ gb408); have GE408 := aM (zG hg : w.heap.size ≤ gb408); replace HB := cH HB hb; clear hb hbox hg; obtain ⟨hcz7_0, hcz7_1, hcz7_2, hcz7_3, hcz7_4⟩ := kk5 BK408; obtain ⟨hfz7_0, hfz7_1, hfz7_2, hfz7_3, hfz7_4⟩ := kg5 BK408) | (go_at_call 51; (with_reducible refine (impl_FrameOk.calls k a0_0 a0_1 a0_2 a0_3 _ _ l0_4 true _ ?side1 ?side2 A3.out).mono ?_); (case side1 => exact zC (Kd.C_below HR0_4.out HB.out)); (case side2 => exact HC0_4.out); rintro e w8 ⟨rfl, hb⟩; replace BK408 := cB BK408 hb; replace HB := cH HB hb; (try clear hb); obtain ⟨hcz9_0, hcz9_1, hcz9_2, hcz9_3, hcz9_4⟩ := kk5 BK408; obtain ⟨hfz9_0, hfz9_1, hfz9_2, hfz9_3, hfz9_4⟩ := kg5 BK408) | (go_at_call 28; (with_reducible refine (impl_within.calls a1 0 (wrap64 ((l0_4.length : Int) - 1)) t410 _ A5.out).mono ?_); rintro e w' ⟨rfl, ⟨nd, rfl⟩⟩))
  go_ret
  exact ⟨zR, zH⟩
 ·replace c4 := Bool.eq_false_iff.mpr c4
  subst c4
  replace H := iF H
  obtain rfl := Option.some.inj H
  go_enter Try.func89, Try.ntmps89
  go_wp2_with (first | ((with_reducible refine gate_dst (N := 2) rfl ?_); (try (refine gate_guard (by rfl) ?_; dsimp only)); refine box_event ?hg (N := 2) ?hd (cs := #[.int .i64 a0_0, .int .i64 a0_1, .int .i64 a0_2, .int .i64 a0_3, .slice A0_4 l0_4.length c0_4]) (t := 37) ?hr ?_; (case hd => rfl); (case hg => rfl); (case hr => first | (go_simp; done) | (go_simp; rfl)); intro gb408 hg w10 hbox hb; have BK408 := aM hbox; have GW408 := aM (zG hg : w.heap.size ≤ gb408); have GE408 := aM (zG hg : w.heap.size ≤ gb408); replace HB := cH HB hb; clear hb hbox hg; obtain ⟨hcz11_0, hcz11_1, hcz11_2, hcz11_3, hcz11_4⟩ := kk5 BK408; obtain ⟨hfz11_0, hfz11_1, hfz11_2, hfz11_3, hfz11_4⟩ := kg5 BK408) | (go_at_call 51; (with_reducible refine (impl_FrameOk.calls k a0_0 a0_1 a0_2 a0_3 _ _ l0_4 false _ ?side1 ?side2 A3.out).mono ?_); (case side1 => exact zC (Kd.C_below HR0_4.out HB.out)); (case side2 => exact HC0_4.out); rintro e w12 ⟨rfl, hb⟩; replace BK408 := cB BK408 hb; replace HB := cH HB hb; (try clear hb)))
  go_ret
  exact ⟨zR, zH⟩

theorem has_f (p w h r : Int) (l : List S74) (hl : l.length ≤ 1048576) (c : Int) : Ev (fun k => impl_Frame_has.f k p w h r l c) (frameB p w h r l && inR c 0 (wrap64 ((l.length : Int) - 1))) := by
  unfold impl_Frame_has.f
  refine evBind (iFrameOk_f p w h r l hl) (evIf (fun hb => ?_) (fun hb => by rw [Bool.eq_false_iff.2 hb]; exact Ev.now _))
  rw [hb, Bool.true_and]
  exact evBind (evConst (within_f _ _ _)) (Ev.now _)

/-! ### impl_Frame_areComps: function 86 -/
def impl_Frame_areComps.l0 : Nat → List Int → List Int → Int → Int → Int → Int → Int → Int → List (S74) → Option (Bool)
  | 0, _, _, _, _, _, _, _, _, _ => none
  | k + 1, x1, x7, x8, x9, x412000, x412001, x412002, x412003, x412004 => if x9 < x8 then (if 0 ≤ x9 then (if x9 < (x7.length : Int) then ((impl_Frame_has.f k x412000 x412001 x412002 x412003 x412004 (rd x7 x9)).bind fun t413 => (if t413 = true then (if x9 > 0 then (if 0 ≤ (wrap64 (x9 - 1)) then (if (wrap64 (x9 - 1)) < (x1.length : Int) then (if (rd x1 (wrap64 (x9 - 1))) ≥ (rd x7 x9) then (some false) else (impl_Frame_areComps.l0 k x1 x7 x8 (wrap64 (x9 + 1)) x412000 x412001 x412002 x412003 x412004)) else (none)) else (none)) else (impl_Frame_areComps.l0 k x1 x7 x8 (wrap64 (x9 + 1)) x412000 x412001 x412002 x412003 x412004)) else (some false))) else (none)) else (none)) else (some (decide ((x1.length : Int) > 0)))
def impl_Frame_areComps.f (k : Nat) (a0_0 : Int) (a0_1 : Int) (a0_2 : Int) (a0_3 : Int) (l0_4 : List (S74)) (l1 : List Int) : Option (Bool) := impl_Frame_areComps.l0 k l1 l1 (l1.length : Int) 0 a0_0 a0_1 a0_2 a0_3 l0_4
theorem impl_Frame_areComps.mono_l : ∀ k, (∀ y0 y1 y2 y3 y4 y5 y6 y7 y8, LeO (impl_Frame_areComps.l0 k y0 y1 y2 y3 y4 y5 y6 y7 y8) (impl_Frame_areComps.l0 (k + 1) y0 y1 y2 y3 y4 y5 y6 y7 y8))
 | 0 => fun _ _ _ _ _ _ _ _ _ r h => by simp [impl_Frame_areComps.l0] at h
 | k + 1 => by
  have ih0 := impl_Frame_areComps.mono_l k
  ·intro y0 y1 y2 y3 y4 y5 y6 y7 y8
   unfold impl_Frame_areComps.l0
   repeat' first
   | (with_reducible exact ih0 _ _ _ _ _ _ _ _ _)
   | (with_reducible exact impl_Frame_has.mono _ _ _ _ _ _ _)
   | (with_reducible exact LeO.refl _)
   | (with_reducible exact LeO.none _)
   | (with_reducible refine LeO.ite ?_ ?_)
   | (with_reducible refine LeO.bind ?_ (fun _ => ?_))
   | exact ih0 _ _ _ _ _ _ _ _ _
   | exact impl_Frame_has.mono _ _ _ _ _ _ _
   | exact LeO.none _
   | refine LeO.ite ?_ ?_
   | refine LeO.bind ?_ (fun _ => ?_)
theorem impl_Frame_areComps.mono : ∀ a0 a1 a2 a3 a4 a5 k, LeO (impl_Frame_areComps.f k a0 a1 a2 a3 a4 a5) (impl_Frame_areComps.f (k + 1) a0 a1 a2 a3 a4 a5) := by
 intro a0 a1 a2 a3 a4 a5 k
 have ih0 := impl_Frame_areComps.mono_l k
 unfold impl_Frame_areComps.f
 repeat' first
   | (with_reducible exact ih0 _ _ _ _ _ _ _ _ _)
   | (with_reducible exact impl_Frame_has.mono _ _ _ _ _ _ _)
   | (with_reducible exact LeO.refl _)
   | (with_reducible exact LeO.none _)
   | (with_reducible refine LeO.ite ?_ ?_)
   | (with_reducible refine LeO.bind ?_ (fun _ => ?_))
   | exact ih0 _ _ _ _ _ _ _ _ _
   | exact impl_Frame_has.mono _ _ _ _ _ _ _
   | exact LeO.none _
   | refine LeO.ite ?_ ?_
   | refine LeO.bind ?_ (fun _ => ?_)
set_option maxHeartbeats 8000000 in
set_option maxRecDepth 100000 in
theorem impl_Frame_areComps.calls (k : Nat) (a0_0 : Int) (a0_1 : Int) (a0_2 : Int) (a0_3 : Int) (A0_4 : Option Addr) (c0_4 : Nat) (l0_4 : List (S74)) (A1 : Option Addr) (c1 : Nat) (l1 : List Int) (r : Bool) (w : World) (hr0_4 : Kd.C k74 w A0_4 l0_4.length l0_4) (hc0_4 : l0_4.length ≤ c0_4) (hr1 : Kd.C (Kd.int .i64) w A1 l1.length l1) (hc1 : l1.length ≤ c1) (h : impl_Frame_areComps.f k a0_0 a0_1 a0_2 a0_3 l0_4 l1 = some r) :
  Calls Try.prog 86 #[.agg #[.int .i64 a0_0, .int .i64 a0_1, .int .i64 a0_2, .int .i64 a0_3, .slice A0_4 l0_4.length c0_4], .slice A1 l1.length c1] w fun e w' => e = .returned (.bool r) ∧ Below w.heap.size w w' := by
 have hu37 := Try.underlying37
 have HR0_4 := aM hr0_4
 have HC0_4 := aM hc0_4
 clear hr0_4 hc0_4
 have HR1 := aM hr1
 have HC1 := aM hc1
 clear hr1 hc1
 have HB := aM (Below.refl w.heap.size w)
 have H : (impl_Frame_areComps.l0 k l1 l1 (l1.length : Int) 0 a0_0 a0_1 a0_2 a0_3 l0_4) = some r := h
 clear h
 have H' := aM H
 clear H
 go_enter Try.func86, Try.ntmps86
 go_wp2_with (first | ((with_reducible refine gate_dst (N := 2) rfl ?_); refine box_event ?hg (N := 2) ?hd (cs := #[.int .i64 a0_0, .int .i64 a0_1, .int .i64 a0_2, .int .i64 a0_3, .slice A0_4 l0_4.length c0_4]) (t := 37) ?hr ?_; (case hd => rfl); (case hg => rfl); (case hr => first | (go_simp; done) | (go_simp; rfl)); intro gb411 hg w3 hbox hb; have BK411 := aM hbox; have GW411 := aM (zG hg : w.heap.size ≤ gb411); have GE411 := aM (zG hg : w.heap.size ≤ gb411); replace HB := cH HB hb; clear hb hbox hg))
 go_loopg [9] k (fun kq v9 w' => ∃ (x9_1 : Int), v9 = .int .i64 x9_1 ∧ Aside0 (impl_Frame_areComps.l0 kq l1 l1 (l1.length : Int) x9_1 a0_0 a0_1 a0_2 a0_3 l0_4 = some r) ∧ Aside0 (kq ≤ k) ∧ Aside0 (w'.heap[gb411]? = some (.cells #[.int .i64 a0_0, .int .i64 a0_1, .int .i64 a0_2, .int .i64 a0_3, (.slice A0_4 l0_4.length c0_4)] 37 (0, 0))) ∧ Aside0 (Below w.heap.size w w'))
 case atStart => exact ⟨(0), zS, H', ⟨Nat.le_refl _⟩, ⟨zK BK411⟩, ⟨zH⟩⟩
 case round =>
  clear H'
  try clear c1
  obtain ⟨x9_1, rfl, HA, HK1, BK411, HB⟩ := hrel
  cases gk with
  | zero => exact absurd HA.out (by simp [impl_Frame_areComps.l0])
  | succ k1 =>
   have H := HA.out
   clear HA
   simp only [impl_Frame_areComps.l0] at H
   by_cases c4 : x9_1 < (l1.length : Int)
   ·rw [if_pos c4] at H
    have c4b0 : decide (x9_1 < (l1.length : Int)) = true := decide_eq_true c4
    clear c4
    by_cases c5 : 0 ≤ x9_1
    ·rw [if_pos c5] at H
     have c5b0 : decide (0 ≤ x9_1) = true := decide_eq_true c5
     clear c5
     by_cases c6 : x9_1 < (l1.length : Int)
     ·rw [if_pos c6] at H
      have c6b0 : decide (x9_1 < (l1.length : Int)) = true := decide_eq_true c6
      clear c6
      obtain ⟨t413, A7, H⟩ := oH H
      by_cases c8 : t413 = true
      ·subst c8
       replace H := iT H
       by_cases c9 : x9_1 > 0
       ·rw [if_pos c9] at H
        have c9b0 : decide (0 < x9_1) = true := decide_eq_true c9
        clear c9
        obtain ⟨ji10, hji10⟩ : ∃ j_ : Int, (wrap64 (x9_1 - 1)) = j_ := ⟨_, rfl⟩
        replace H : (if 0 ≤ (ji10) then (if (ji10) < (l1.length : Int) then (if (rd l1 (ji10)) ≥ (rd l1 x9_1) then (some false) else (impl_Frame_areComps.l0 k1 l1 l1 (l1.length : Int) (wrap64 (x9_1 + 1)) a0_0 a0_1 a0_2 a0_3 l0_4)) else (none)) else (none)) = some r := by first | (rw [hji10] at H; exact H) | (simp only [hji10] at H ⊢; exact H)
        (try rw [hji10] at A7)
        have hji10w : (IntKind.i64.wrap (x9_1 - 1)) = ji10 := (i64_w _).trans hji10
        by_cases c11 : 0 ≤ (ji10)
        ·rw [if_pos c11] at H
         have c11b0 : decide (0 ≤ (ji10)) = true := decide_eq_true c11
         clear c11
         by_cases c12 : (ji10) < (l1.length : Int)
         ·rw [if_pos c12] at H
          have c12b0 : decide ((ji10) < (l1.length : Int)) = true := decide_eq_true c12
          clear c12
          by_cases c13 : (rd l1 (ji10)) ≥ (rd l1 x9_1)
          ·rw [if_pos c13] at H
           have c13b0 : decide ((rd l1 x9_1) ≤ (rd l1 (ji10))) = true := decide_eq_true c13
           clear c13
           obtain rfl := Option.some.inj H
           have p412 : 0 ≤ (x9_1 : Int) := zA
           have q412 : x9_1 < (l1.length : Int) := zA
           obtain ⟨ad412, e412, hx412_0⟩ := Kd.at_int HR1.out x9_1 p412 q412
           cases e412
           replace hx412_0 := hX HB hx412_0
           replace p412 := eq_true p412
           replace q412 := eq_true q412
           obtain ⟨hcz14_0, hcz14_1, hcz14_2, hcz14_3, hcz14_4⟩ := kk5 BK411
           go_wp2_with (first | (go_at_call 89; (with_reducible refine (impl_Frame_has.calls k1 a0_0 a0_1 a0_2 a0_3 _ _ l0_4 (rd l1 x9_1) true _ ?side1 ?side2 A7.out).mono ?_); (case side1 => exact zC (Kd.C_below HR0_4.out HB.out)); (case side2 => exact HC0_4.out); rintro e w15 ⟨rfl, hb⟩; replace BK411 := cB BK411 hb; replace HB := cH HB hb; (try clear hb); have p414 : 0 ≤ ((ji10) : Int) := zA; have q414 : (ji10) < (l1.length : Int) := zA; obtain ⟨ad414, e414, hx414_0⟩ := Kd.at_int HR1.out (ji10) p414 q414; obtain rfl : ad412 = ad414 := (by injection e414); replace hx414_0 := hX HB hx414_0; replace p414 := eq_true p414; replace q414 := eq_true q414))
           go_ret
           exact ⟨by first | rfl | (simp [errW_none, errW_some] <;> rfl) | (simp only [← hji10]; first | rfl | (simp [errW_none, errW_some] <;> rfl)) | (simp [*, errW_none, errW_some] <;> rfl), zH⟩
          ·rw [if_neg c13] at H
           have c13b0 : decide ((rd l1 x9_1) ≤ (rd l1 (ji10))) = false := decide_eq_false c13
           clear c13
           have H' := aM H
           clear H
           have p412 : 0 ≤ (x9_1 : Int) := zA
           have q412 : x9_1 < (l1.length : Int) := zA
           obtain ⟨ad412, e412, hx412_0⟩ := Kd.at_int HR1.out x9_1 p412 q412
           cases e412
           replace hx412_0 := hX HB hx412_0
           replace p412 := eq_true p412
           replace q412 := eq_true q412
           obtain ⟨hcz16_0, hcz16_1, hcz16_2, hcz16_3, hcz16_4⟩ := kk5 BK411
           go_wp2_with (first | (go_at_call 89; (with_reducible refine (impl_Frame_has.calls k1 a0_0 a0_1 a0_2 a0_3 _ _ l0_4 (rd l1 x9_1) true _ ?side1 ?side2 A7.out).mono ?_); (case side1 => exact zC (Kd.C_below HR0_4.out HB.out)); (case side2 => exact HC0_4.out); rintro e w17 ⟨rfl, hb⟩; replace BK411 := cB BK411 hb; replace HB := cH HB hb; (try clear hb); have p414 : 0 ≤ ((ji10) : Int) := zA; have q414 : (ji10) < (l1.length : Int) := zA; obtain ⟨ad414, e414, hx414_0⟩ := Kd.at_int HR1.out (ji10) p414 q414; obtain rfl : ad412 = ad414 := (by injection e414); replace hx414_0 := hX HB hx414_0; replace p414 := eq_true p414; replace q414 := eq_true q414))
           go_roundg k1
           case measure => have := HK1.out; omega
           case rel => exact ⟨(wrap64 (x9_1 + 1)), zS, H', ⟨by have := HK1.out; omega⟩, ⟨zK BK411⟩, ⟨zH⟩⟩
         ·rw [if_neg c12] at H
          exact absurd H (by simp)
        ·rw [if_neg c11] at H
         exact absurd H (by simp)
       ·rw [if_neg c9] at H
        have c9b0 : decide (0 < x9_1) = false := decide_eq_false c9
        clear c9
        have H' := aM H
        clear H
        have p412 : 0 ≤ (x9_1 : Int) := zA
        have q412 : x9_1 < (l1.length : Int) := zA
        obtain ⟨ad412, e412, hx412_0⟩ := Kd.at_int HR1.out x9_1 p412 q412
        cases e412
        replace hx412_0 := hX HB hx412_0
        replace p412 := eq_true p412
        replace q412 := eq_true q412
        obtain ⟨hcz18_0, hcz18_1, hcz18_2, hcz18_3, hcz18_4⟩ := kk5 BK411
        go_wp2_with (first | (go_at_call 89; (with_reducible refine (impl_Frame_has.calls k1 a0_0 a0_1 a0_2 a0_3 _ _ l0_4 (rd l1 x9_1) true _ ?side1 ?side2 A7.out).mono ?_); (case side1 => exact zC (Kd.C_below HR0_4.out HB.out)); (case side2 => exact HC0_4.out); rintro e w19 ⟨rfl, hb⟩; replace BK411 := cB BK411 hb; replace HB := cH HB hb; (try clear hb)))
        go_roundg k1
        case measure => have := HK1.out; omega
        case rel => exact ⟨(wrap64 (x9_1 + 1)), zS, H', ⟨by have := HK1.out; omega⟩, ⟨zK BK411⟩, ⟨zH⟩⟩
      ·replace c8 := Bool.eq_false_iff.mpr c8
       subst c8
       replace H := iF H
       obtain rfl := Option.some.inj H
       have p412 : 0 ≤ (x9_1 : Int) := zA
       have q412 : x9_1 < (l1.length : Int) := zA
       obtain ⟨ad412, e412, hx412_0⟩ := Kd.at_int HR1.out x9_1 p412 q412
       cases e412
       replace hx412_0 := hX HB hx412_0
       replace p412 := eq_true p412
       replace q412 := eq_true q412
       obtain ⟨hcz20_0, hcz20_1, hcz20_2, hcz20_3, hcz20_4⟩ := kk5 BK411
       go_wp2_with (first | (go_at_call 89; (with_reducible refine (impl_Frame_has.calls k1 a0_0 a0_1 a0_2 a0_3 _ _ l0_4 (rd l1 x9_1) false _ ?side1 ?side2 A7.out).mono ?_); (case side1 => exact zC (Kd.C_below HR0_4.out HB.out)); (case side2 => exact HC0_4.out); rintro e w21 ⟨rfl, hb⟩; replace BK411 := cB BK411 hb; replace HB := cH HB hb; (try clear hb)))
       go_ret
       exact ⟨zR, zH⟩
     ·rw [if_neg c6] at H
      exact absurd H (by simp)
    ·rw [if_neg c5] at H
     exact absurd H (by simp)
   ·rw [if_neg c4] at H
    have c4b0 : decide (x9_1 < (l1.length : Int)) = false := decide_eq_false c4
    clear c4
    obtain rfl := Option.some.inj H
    go_wp2
    go_ret
    exact ⟨zR, zH⟩

theorem iComps_l0 (p w h r : Int) (l : List S74) (hl : l.length ≤ 1048576) (hb : frameB p w h r l = true) (c : List Int) (hc : c.length ≤ 1048576) : ∀ (d i : Nat), i + d = c.length → Ev (fun k => impl_Frame_areComps.l0 k c c (c.length : Int) i p w h r l) (compsB c (l.length : Int) d i) := by
  intro d
  induction d with
  | zero =>
    intro i hi
    refine Ev.step (fun k => by rw [impl_Frame_areComps.l0]) (evNeg (by omega) ?_)
    exact Ev.now _
  | succ d ih =>
    intro i hi
    refine Ev.step (fun k => by rw [impl_Frame_areComps.l0]) (evPos (by omega) (evPos (by omega) (evPos (by omega) ?_)))
    rw [compsB]
    have hh := has_f p w h r l hl (rd c (i : Int))
    rw [hb, Bool.true_and] at hh
    refine evBind hh (evIf (fun h1 => ?_) (fun h1 => by rw [Bool.eq_false_iff.2 h1]; exact Ev.now _))
    have hn := ih (i + 1) (by omega)
    rw [h1, w64 (x := (i : Int) - 1) (by omega) (by omega), w64 (x := (i : Int) + 1) (by omega) (by omega), Bool.true_and]
    refine evIf (fun h2 => evPos (by omega) (evPos (by omega) (evIf (fun h3 => ?_) (fun h3 => ?_)))) (fun h2 => ?_)
    · rw [decide_eq_false (show ¬ i = 0 by omega), decide_eq_false (show ¬ rd c ((i : Int) - 1) < rd c (i : Int) by omega)]
      exact Ev.now _
    · rw [decide_eq_false (show ¬ i = 0 by omega), decide_eq_true (show rd c ((i : Int) - 1) < rd c (i : Int) by omega)]
      simpa using hn
    · rw [decide_eq_true (show i = 0 by omega)]
      simpa using hn
theorem iComps_f (p w h r : Int) (l : List S74) (hl : l.length ≤ 1048576) (hb : frameB p w h r l = true) (c : List Int) (hc : c.length ≤ 1048576) : Ev (fun k => impl_Frame_areComps.f k p w h r l c) (compsB c (l.length : Int) c.length 0) := iComps_l0 p w h r l hl hb c hc c.length 0 (by omega)

/-! ### impl_Scan_isPass: function 87 -/
def impl_Scan_isPass.f (l0_0 : List Int) (a0_1 : Int) (a0_2 : Int) (a0_3 : Int) (a0_4 : Int) : Option (Bool) := (impl_within.f a0_2 0 63).bind fun t416 => (if t416 = true then ((impl_within.f a0_1 0 a0_2).bind fun t417 => (if t417 = true then ((impl_within.f a0_4 0 13).bind fun t418 => (if t418 = true then (if a0_3 = 0 then (some true) else (some (a0_3 == (wrap64 (a0_4 + 1))))) else (some false))) else (some false))) else (some false))
set_option maxHeartbeats 8000000 in
set_option maxRecDepth 100000 in
theorem impl_Scan_isPass.calls (A0_0 : Option Addr) (c0_0 : Nat) (l0_0 : List Int) (a0_1 : Int) (a0_2 : Int) (a0_3 : Int) (a0_4 : Int) (r : Bool) (w : World) (hr0_0 : Kd.C (Kd.int .i64) w A0_0 l0_0.length l0_0) (hc0_0 : l0_0.length ≤ c0_0) (h : impl_Scan_isPass.f l0_0 a0_1 a0_2 a0_3 a0_4 = some r) :
  Calls Try.prog 87 #[.agg #[.slice A0_0 l0_0.length c0_0, .int .i64 a0_1, .int .i64 a0_2, .int .i64 a0_3, .int .i64 a0_4]] w fun e w' => e = .returned (.bool r) ∧ Below w.heap.size w w' := by
 have hu86 := Try.underlying86
 have HR0_0 := aM hr0_0
 have HC0_0 := aM hc0_0
 clear hr0_0 hc0_0
 have HB := aM (Below.refl w.heap.size w)
 have H : ((impl_within.f a0_2 0 63).bind fun t416 => (if t416 = true then ((impl_within.f a0_1 0 a0_2).bind fun t417 => (if t417 = true then ((impl_within.f a0_4 0 13).bind fun t418 => (if t418 = true then (if a0_3 = 0 then (some true) else (some (a0_3 == (wrap64 (a0_4 + 1))))) else (some false))) else (some false))) else (some false))) = some r := h
 clear h
 obtain ⟨t416, A2, H⟩ := oH H
 by_cases c3 : t416 = true
 ·subst c3
  replace H := iT H
  obtain ⟨t417, A4, H⟩ := oH H
  by_cases c5 : t417 = true
  ·subst c5
   replace H := iT H
   obtain ⟨t418, A6, H⟩ := oH H
   by_cases c7 : t418 = true
   ·subst c7
    replace H := iT H
    by_cases c8 : a0_3 = 0
    ·rw [if_pos c8] at H
     have c8b0 : (a0_3 == 0) = true := beq_iff_eq.mpr c8
     have c8b1 : (a0_3 != 0) = false := bne_eq_false_iff_eq.mpr c8
     clear c8
     obtain rfl := Option.some.inj H
     go_enter Try.func87, Try.ntmps87
     go_wp2_with (first | ((with_reducible refine gate_dst (N := 1) rfl ?_); refine box_event ?hg (N := 1) ?hd (cs := #[.slice A0_0 l0_0.length c0_0, .int .i64 a0_1, .int .i64 a0_2, .int .i64 a0_3, .int .i64 a0_4]) (t := 86) ?hr ?_; (case hd => rfl); (case hg => rfl); (case hr => first | (go_simp; done) | (go_simp; rfl)); intro gb415 hg w9 hbox hb; have BK415 := aM hbox; have GW415 := aM (zG hg : w.heap.size ≤ gb415); have GE415 := aM (zG hg : w.heap.size ≤ gb415); replace HB := cH HB hb; clear hb hbox hg; obtain ⟨hcz10_0, hcz10_1, hcz10_2, hcz10_3, hcz10_4⟩ := kk5 BK415; obtain ⟨hfz10_0, hfz10_1, hfz10_2, hfz10_3, hfz10_4⟩ := kg5 BK415) | ((with_reducible refine gate_callee (f := 28) rfl ?_); refine zGl (some 5) Try.func28 #[.int .i64 a0_2, .int .i64 0, .int .i64 63] ?_; (with_reducible refine (impl_within.calls a0_2 0 63 true _ A2.out).mono ?_); rintro e w' ⟨rfl, ⟨nd, rfl⟩⟩; refine ⟨_, rfl, ?_⟩) | (go_at_call 28; (with_reducible refine (impl_within.calls a0_1 0 a0_2 true _ A4.out).mono ?_); rintro e w' ⟨rfl, ⟨nd, rfl⟩⟩) | (go_at_call 28; (with_reducible refine (impl_within.calls a0_4 0 13 true _ A6.out).mono ?_); rintro e w' ⟨rfl, ⟨nd, rfl⟩⟩))
     go_ret
     exact ⟨zR, zH⟩
    ·rw [if_neg c8] at H
     have c8b0 : (a0_3 == 0) = false := beq_eq_false_iff_ne.mpr c8
     have c8b1 : (a0_3 != 0) = true := bne_iff_ne.mpr c8
     obtain rfl := Option.some.inj H
     go_enter Try.func87, Try.ntmps87
     go_wp2_with (first | ((with_reducible refine gate_dst (N := 1) rfl ?_); refine box_event ?hg (N := 1) ?hd (cs := #[.slice A0_0 l0_0.length c0_0, .int .i64 a0_1, .int .i64 a0_2, .int .i64 a0_3, .int .i64 a0_4]) (t := 86) ?hr ?_; (case hd => rfl); (case hg => rfl); (case hr => first | (go_simp; done) | (go_simp; rfl)); intro gb415 hg w11 hbox hb; have BK415 := aM hbox; have GW415 := aM (zG hg : w.heap.size ≤ gb415); have GE415 := aM (zG hg : w.heap.size ≤ gb415); replace HB := cH HB hb; clear hb hbox hg; obtain ⟨hcz12_0, hcz12_1, hcz12_2, hcz12_3, hcz12_4⟩ := kk5 BK415; obtain ⟨hfz12_0, hfz12_1, hfz12_2, hfz12_3, hfz12_4⟩ := kg5 BK415) | ((with_reducible refine gate_callee (f := 28) rfl ?_); refine zGl (some 5) Try.func28 #[.int .i64 a0_2, .int .i64 0, .int .i64 63] ?_; (with_reducible refine (impl_within.calls a0_2 0 63 true _ A2.out).mono ?_); rintro e w' ⟨rfl, ⟨nd, rfl⟩⟩; refine ⟨_, rfl, ?_⟩) | (go_at_call 28; (with_reducible refine (impl_within.calls a0_1 0 a0_2 true _ A4.out).mono ?_); rintro e w' ⟨rfl, ⟨nd, rfl⟩⟩) | (go_at_call 28; (with_reducible refine (impl_within.calls a0_4 0 13 true _ A6.out).mono ?_); rintro e w' ⟨rfl, ⟨nd, rfl⟩⟩))
     go_ret
     exact ⟨zR, zH⟩
   ·replace c7 := Bool.eq_false_iff.mpr c7
    subst c7
    replace H := iF H
    obtain rfl := Option.some.inj H
    go_enter Try.func87, Try.ntmps87
    go_wp2_with (first | ((with_reducible refine gate_dst (N := 1) rfl ?_); refine box_event ?hg (N := 1) ?hd (cs := #[.slice A0_0 l0_0.length c0_0, .int .i64 a0_1, .int .i64 a0_2, .int .i64 a0_3, .int .i64 a0_4]) (t := 86) ?hr ?_; (case hd => rfl); (case hg => rfl); (case hr => first | (go_simp; done) | (go_simp; rfl)); intro gb415 hg w13 hbox hb; have BK415 := aM hbox; have GW415 := aM (zG hg : w.heap.size ≤ gb415); have GE415 := aM (zG hg : w.heap.size ≤ gb415); replace HB := cH HB hb; clear hb hbox hg; obtain ⟨hcz14_0, hcz14_1, hcz14_2, hcz14_3, hcz14_4⟩ := kk5 BK415; obtain ⟨hfz14_0, hfz14_1, hfz14_2, hfz14_3, hfz14_4⟩ := kg5 BK415) | ((with_reducible refine gate_callee (f := 28) rfl ?_); refine zGl (some 5) Try.func28 #[.int .i64 a0_2, .int .i64 0, .int .i64 63] ?_; (with_reducible refine (impl_within.calls a0_2 0 63 true _ A2.out).mono ?_); rintro e w' ⟨rfl, ⟨nd, rfl⟩⟩; refine ⟨_, rfl, ?_⟩) | (go_at_call 28; (with_reducible refine (impl_within.calls a0_1 0 a0_2 true _ A4.out).mono ?_); rintro e w' ⟨rfl, ⟨nd, rfl⟩⟩) | (go_at_call 28; (with_reducible refine (impl_within.calls a0_4 0 13 false _ A6.out).mono ?_); rintro e w' ⟨rfl, ⟨nd, rfl⟩⟩))
    go_ret
    exact ⟨zR, zH⟩
  ·replace c5 := Bool.eq_false_iff.mpr c5
   subst c5
   replace H := iF H
   obtain rfl := Option.some.inj H
   go_enter Try.func87, Try.ntmps87
   go_wp2_with (first | ((with_reducible refine gate_dst (N := 1) rfl ?_); refine box_event ?hg (N := 1) ?hd (cs := #[.slice A0_0 l0_0.length c0_0, .int .i64 a0_1, .int .i64 a0_2, .int .i64 a0_3, .int .i64 a0_4]) (t := 86) ?hr ?_; (case hd => rfl); (case hg => rfl); (case hr => first | (go_simp; done) | (go_simp; rfl)); intro gb415 hg w15 hbox hb; have BK415 := aM hbox; have GW415 := aM (zG hg : w.heap.size ≤ gb415); have GE415 := aM (zG hg : w.heap.size ≤ gb415); replace HB := cH HB hb; clear hb hbox hg; obtain ⟨hcz16_0, hcz16_1, hcz16_2, hcz16_3, hcz16_4⟩ := kk5 BK415; obtain ⟨hfz16_0, hfz16_1, hfz16_2, hfz16_3, hfz16_4⟩ := kg5 BK415) | ((with_reducible refine gate_callee (f := 28) rfl ?_); refine zGl (some 5) Try.func28 #[.int .i64 a0_2, .int .i64 0, .int .i64 63] ?_; (with_reducible refine (impl_within.calls a0_2 0 63 true _ A2.out).mono ?_); rintro e w' ⟨rfl, ⟨nd, rfl⟩⟩; refine ⟨_, rfl, ?_⟩) | (go_at_call 28; (with_reducible refine (impl_within.calls a0_1 0 a0_2 false _ A4.out).mono ?_); rintro e w' ⟨rfl, ⟨nd, rfl⟩⟩))
   go_ret
   exact ⟨zR, zH⟩
 ·replace c3 := Bool.eq_false_iff.mpr c3
  subst c3
  replace H := iF H
  obtain rfl := Option.some.inj H
  go_enter Try.func87, Try.ntmps87
  go_wp2_with (first | ((with_reducible refine gate_dst (N := 1) rfl ?_); refine box_event ?hg (N := 1) ?hd (cs := #[.slice A0_0 l0_0.length c0_0, .int .i64 a0_1, .int .i64 a0_2, .int .i64 a0_3, .int .i64 a0_4]) (t := 86) ?hr ?_; (case hd => rfl); (case hg => rfl); (case hr => first | (go_simp; done) | (go_simp; rfl)); intro gb415 hg w17 hbox hb; have BK415 := aM hbox; have GW415 := aM (zG hg : w.heap.size ≤ gb415); have GE415 := aM (zG hg : w.heap.size ≤ gb415); replace HB := cH HB hb; clear hb hbox hg; obtain ⟨hcz18_0, hcz18_1, hcz18_2, hcz18_3, hcz18_4⟩ := kk5 BK415; obtain ⟨hfz18_0, hfz18_1, hfz18_2, hfz18_3, hfz18_4⟩ := kg5 BK415) | ((with_reducible refine gate_callee (f := 28) rfl ?_); refine zGl (some 5) Try.func28 #[.int .i64 a0_2, .int .i64 0, .int .i64 63] ?_; (with_reducible refine (impl_within.calls a0_2 0 63 false _ A2.out).mono ?_); rintro e w' ⟨rfl, ⟨nd, rfl⟩⟩; refine ⟨_, rfl, ?_⟩))
  go_ret
  exact ⟨zR, zH⟩

theorem isPass_f (c : List Int) (f t h l : Int) : impl_Scan_isPass.f c f t h l = some (passB f t h l) := by
  simp only [impl_Scan_isPass.f, within_f, Option.bind_some, passB]
  by_cases h0 : inR f 0 t = true
  · have h01 := inR_iff.1 h0
    by_cases h1 : t ≤ 63
    · have h2 : inR t 0 63 = true := inR_iff.2 ⟨by omega, h1⟩
      rw [if_pos h2, if_pos h0, h0, decide_eq_true h1]
      cases inR l 0 13 <;> by_cases h3 : h = 0 <;> simp [h3]
    · have h2 : ¬ inR t 0 63 = true := fun h => h1 (inR_iff.1 h).2
      rw [if_neg h2, decide_eq_false h1]
      simp
  · rw [Bool.eq_false_iff.2 h0]
    cases inR t 0 63 <;> simp

/-! ### impl_ScanOk: function 71 -/
def impl_ScanOk.f (k : Nat) (a0_0 : Int) (a0_1 : Int) (a0_2 : Int) (a0_3 : Int) (l0_4 : List (S74)) (l1_0 : List Int) (a1_1 : Int) (a1_2 : Int) (a1_3 : Int) (a1_4 : Int) : Option (Bool) := (impl_FrameOk.f k a0_0 a0_1 a0_2 a0_3 l0_4).bind fun t421 => (if t421 = true then ((impl_Frame_areComps.f k a0_0 a0_1 a0_2 a0_3 l0_4 l1_0).bind fun t422 => (if t422 = true then ((impl_Scan_isPass.f l1_0 a1_1 a1_2 a1_3 a1_4).bind fun t423 => (some t423)) else (some false))) else (some false))
theorem impl_ScanOk.mono : ∀ a0 a1 a2 a3 a4 a5 a6 a7 a8 a9 k, LeO (impl_ScanOk.f k a0 a1 a2 a3 a4 a5 a6 a7 a8 a9) (impl_ScanOk.f (k + 1) a0 a1 a2 a3 a4 a5 a6 a7 a8 a9) := by
 intro a0 a1 a2 a3 a4 a5 a6 a7 a8 a9 k
 unfold impl_ScanOk.f
 repeat' first
   | (with_reducible exact impl_FrameOk.mono _ _ _ _ _ _)
   | (with_reducible exact impl_Frame_areComps.mono _ _ _ _ _ _ _)
   | (with_reducible exact LeO.refl _)
   | (with_reducible exact LeO.none _)
   | (with_reducible refine LeO.ite ?_ ?_)
   | (with_reducible refine LeO.bind ?_ (fun _ => ?_))
   | exact impl_FrameOk.mono _ _ _ _ _ _
   | exact impl_Frame_areComps.mono _ _ _ _ _ _ _
   | exact LeO.none _
   | refine LeO.ite ?_ ?_
   | refine LeO.bind ?_ (fun _ => ?_)
set_option maxHeartbeats 8000000 in
set_option maxRecDepth 100000 in
theorem impl_ScanOk.calls (k : Nat) (a0_0 : Int) (a0_1 : Int) (a0_2 : Int) (a0_3 : Int) (A0_4 : Option Addr) (c0_4 : Nat) (l0_4 : List (S74)) (A1_0 : Option Addr) (c1_0 : Nat) (l1_0 : List Int) (a1_1 : Int) (a1_2 : Int) (a1_3 : Int) (a1_4 : Int) (r : Bool) (w : World) (hr0_4 : Kd.C k74 w A0_4 l0_4.length l0_4) (hc0_4 : l0_4.length ≤ c0_4) (hr1_0 : Kd.C (Kd.int .i64) w A1_0 l1_0.length l1_0) (hc1_0 : l1_0.length ≤ c1_0) (h : impl_ScanOk.f k a0_0 a0_1 a0_2 a0_3 l0_4 l1_0 a1_1 a1_2 a1_3 a1_4 = some r) :
  Calls Try.prog 71 #[.agg #[.int .i64 a0_0, .int .i64 a0_1, .int .i64 a0_2, .int .i64 a0_3, .slice A0_4 l0_4.length c0_4], .agg #[.slice A1_0 l1_0.length c1_0, .int .i64 a1_1, .int .i64 a1_2, .int .i64 a1_3, .int .i64 a1_4]] w fun e w' => e = .returned (.bool r) ∧ Below w.heap.size w w' := by
 have hu37 := Try.underlying37
 have hu86 := Try.underlying86
 have HR0_4 := aM hr0_4
 have HC0_4 := aM hc0_4
 clear hr0_4 hc0_4
 have HR1_0 := aM hr1_0
 have HC1_0 := aM hc1_0
 clear hr1_0 hc1_0
 have HB := aM (Below.refl w.heap.size w)
 have H : ((impl_FrameOk.f k a0_0 a0_1 a0_2 a0_3 l0_4).bind fun t421 => (if t421 = true then ((impl_Frame_areComps.f k a0_0 a0_1 a0_2 a0_3 l0_4 l1_0).bind fun t422 => (if t422 = true then ((impl_Scan_isPass.f l1_0 a1_1 a1_2 a1_3 a1_4).bind fun t423 => (some t423)) else (some false))) else (some false))) = some r := h
 clear h
 obtain ⟨t421, A3, H⟩ := oH H
 by_cases c4 : t421 = true
 ·subst c4
  replace H := iT H
  obtain ⟨t422, A5, H⟩ := oH H
  by_cases c6 : t422 = true
  ·subst c6
   replace H := iT H
   obtain ⟨t423, A7, H⟩ := oH H
   obtain rfl := Option.some.inj H
   go_enter Try.func71, Try.ntmps71
   go_wp2_with (first | ((with_reducible refine gate_dst (N := 2) rfl ?_); refine box_event ?hg (N := 2) ?hd (cs := #[.int .i64 a0_0, .int .i64 a0_1, .int .i64 a0_2, .int .i64 a0_3, .slice A0_4 l0_4.length c0_4]) (t := 37) ?hr ?_; (case hd => rfl); (case hg => rfl); (case hr => first | (go_simp; done) | (go_simp; rfl)); intro gb419 hg w8 hbox hb; have BK419 := aM hbox; have GW419 := aM (zG hg : w.heap.size ≤ gb419); have GE419 := aM (zG hg : w.heap.size ≤ gb419); replace HB := cH HB hb; clear hb hbox hg) | ((with_reducible refine gate_dst (N := 3) rfl ?_); refine box_event ?hg (N := 3) ?hd (cs := #[.slice A1_0 l1_0.length c1_0, .int .i64 a1_1, .int .i64 a1_2, .int .i64 a1_3, .int .i64 a1_4]) (t := 86) ?hr ?_; (case hd => rfl); (case hg => rfl); (case hr => first | (go_simp; done) | (go_simp; rfl)); intro gb420 hg w9 hbox hb; have BK420 := aM hbox; have GW420 := aM (zG hg : w.heap.size ≤ gb420); have GE420 := aM (zG hg : w.heap.size ≤ gb420); replace HB := cH HB hb; have NB419_420 := aM ((zL hg BK419)); have NB420_419 := aM ((zM hg BK419)); replace BK419 := cB BK419 hb; clear hb hbox hg; have hnb10 := NB419_420.out; have hnc10 := NB420_419.out; obtain ⟨hcz11_0, hcz11_1, hcz11_2, hcz11_3, hcz11_4⟩ := kk5 BK419; obtain ⟨hfz11_0, hfz11_1, hfz11_2, hfz11_3, hfz11_4⟩ := kg5 BK419) | (go_at_call 51; (with_reducible refine (impl_FrameOk.calls k a0_0 a0_1 a0_2 a0_3 _ _ l0_4 true _ ?side1 ?side2 A3.out).mono ?_); (case side1 => exact zC (Kd.C_below HR0_4.out HB.out)); (case side2 => exact HC0_4.out); rintro e w12 ⟨rfl, hb⟩; replace BK419 := cB BK419 hb; replace BK420 := cB BK420 hb; replace HB := cH HB hb; (try clear hb); obtain ⟨hcz13_0, hcz13_1, hcz13_2, hcz13_3, hcz13_4⟩ := kk5 BK419; obtain ⟨hfz13_0, hfz13_1, hfz13_2, hfz13_3, hfz13_4⟩ := kg5 BK419; obtain ⟨hcz14_0, hcz14_1, hcz14_2, hcz14_3, hcz14_4⟩ := kk5 BK420; obtain ⟨hfz14_0, hfz14_1, hfz14_2, hfz14_3, hfz14_4⟩ := kg5 BK420) | (go_at_call 86; (with_reducible refine (impl_Frame_areComps.calls k a0_0 a0_1 a0_2 a0_3 _ _ l0_4 _ _ l1_0 true _ ?side1 ?side2 ?side3 ?side4 A5.out).mono ?_); (case side1 => exact zC (Kd.C_below HR0_4.out HB.out)); (case side2 => exact HC0_4.out); (case side3 => exact zC (Kd.C_below HR1_0.out HB.out)); (case side4 => exact HC1_0.out); rintro e w15 ⟨rfl, hb⟩; replace BK419 := cB BK419 hb; replace BK420 := cB BK420 hb; replace HB := cH HB hb; (try clear hb); obtain ⟨hcz16_0, hcz16_1, hcz16_2, hcz16_3, hcz16_4⟩ := kk5 BK420; obtain ⟨hfz16_0, hfz16_1, hfz16_2, hfz16_3, hfz16_4⟩ := kg5 BK420) | (go_at_call 87; (with_reducible refine (impl_Scan_isPass.calls _ _ l1_0 a1_1 a1_2 a1_3 a1_4 t423 _ ?side1 ?side2 A7.out).mono ?_); (case side1 => exact zC (Kd.C_below HR1_0.out HB.out)); (case side2 => exact HC1_0.out); rintro e w17 ⟨rfl, hb⟩; replace BK419 := cB BK419 hb; replace BK420 := cB BK420 hb; replace HB := cH HB hb; (try clear hb)))
   go_ret
   exact ⟨zR, zH⟩
  ·replace c6 := Bool.eq_false_iff.mpr c6
   subst c6
   replace H := iF H
   obtain rfl := Option.some.inj H
   go_enter Try.func71, Try.ntmps71
   go_wp2_with (first | ((with_reducible refine gate_dst (N := 2) rfl ?_); refine box_event ?hg (N := 2) ?hd (cs := #[.int .i64 a0_0, .int .i64 a0_1, .int .i64 a0_2, .int .i64 a0_3, .slice A0_4 l0_4.length c0_4]) (t := 37) ?hr ?_; (case hd => rfl); (case hg => rfl); (case hr => first | (go_simp; done) | (go_simp; rfl)); intro gb419 hg w18 hbox hb; have BK419 := aM hbox; have GW419 := aM (zG hg : w.heap.size ≤ gb419); have GE419 := aM (zG hg : w.heap.size ≤ gb419); replace HB := cH HB hb; clear hb hbox hg) | ((with_reducible refine gate_dst (N := 3) rfl ?_); refine box_event ?hg (N := 3) ?hd (cs := #[.slice A1_0 l1_0.length c1_0, .int .i64 a1_1, .int .i64 a1_2, .int .i64 a1_3, .int .i64 a1_4]) (t := 86) ?hr ?_; (case hd => rfl); (case hg => rfl); (case hr => first | (go_simp; done) | (go_simp; rfl)); intro gb420 hg w19 hbox hb; have BK420 := aM hbox; have GW420 := aM (zG hg : w.heap.size ≤ gb420); have GE420 := aM (zG hg : w.heap.size ≤ gb420); replace HB := cH HB hb; have NB419_420 := aM ((zL hg BK419)); have NB420_419 := aM ((zM hg BK419)); replace BK419 := cB BK419 hb; clear hb hbox hg; have hnb20 := NB419_420.out; have hnc20 := NB420_419.out; obtain ⟨hcz21_0, hcz21_1, hcz21_2, hcz21_3, hcz21_4⟩ := kk5 BK419; obtain ⟨hfz21_0, hfz21_1, hfz21_2, hfz21_3, hfz21_4⟩ := kg5 BK419) | (go_at_call 51; (with_reducible refine (impl_FrameOk.calls k a0_0 a0_1 a0_2 a0_3 _ _ l0_4 true _ ?side1 ?side2 A3.out).mono ?_); (case side1 => exact zC (Kd.C_below HR0_4.out HB.out)); (case side2 => exact HC0_4.out); rintro e w22 ⟨rfl, hb⟩; replace BK419 := cB BK419 hb; replace BK420 := cB BK420 hb; replace HB := cH HB hb; (try clear hb); obtain ⟨hcz23_0, hcz23_1, hcz23_2, hcz23_3, hcz23_4⟩ := kk5 BK419; obtain ⟨hfz23_0, hfz23_1, hfz23_2, hfz23_3, hfz23_4⟩ := kg5 BK419; obtain ⟨hcz24_0, hcz24_1, hcz24_2, hcz24_3, hcz24_4⟩ := kk5 BK420; obtain ⟨hfz24_0, hfz24_1, hfz24_2, hfz24_3, hfz24_4⟩ := kg5 BK420) | (go_at_call 86; (with_reducible refine (impl_Frame_areComps.calls k a0_0 a0_1 a0_2 a0_3 _ _ l0_4 _ _ l1_0 false _ ?side1 ?side2 ?side3 ?side4 A5.out).mono ?_); (case side1 => exact zC (Kd.C_below HR0_4.out HB.out)); (case side2 => exact HC0_4.out); (case side3 => exact zC (Kd.C_below HR1_0.out HB.out)); (case side4 => exact HC1_0.out); rintro e w25 ⟨rfl, hb⟩; replace BK419 := cB BK419 hb; replace BK420 := cB BK420 hb; replace HB := cH HB hb; (try clear hb)))
   go_ret
   exact ⟨zR, zH⟩
 ·replace c4 := Bool.eq_false_iff.mpr c4
  subst c4
  replace H := iF H
  obtain rfl := Option.some.inj H
  go_enter Try.func71, Try.ntmps71
  go_wp2_with (first | ((with_reducible refine gate_dst (N := 2) rfl ?_); refine box_event ?hg (N := 2) ?hd (cs := #[.int .i64 a0_0, .int .i64 a0_1, .int .i64 a0_2, .int .i64 a0_3, .slice A0_4 l0_4.length c0_4]) (t := 37) ?hr ?_; (case hd => rfl); (case hg => rfl); (case hr => first | (go_simp; done) | (go_simp; rfl)); intro gb419 hg w26 hbox hb; have BK419 := aM hbox; have GW419 := aM (zG hg : w.heap.size ≤ gb419); have GE419 := aM (zG hg : w.heap.size ≤ gb419); replace HB := cH HB hb; clear hb hbox hg) | ((with_reducible refine gate_dst (N := 3) rfl ?_); refine box_event ?hg (N := 3) ?hd (cs := #[.slice A1_0 l1_0.length c1_0, .int .i64 a1_1, .int .i64 a1_2, .int .i64 a1_3, .int .i64 a1_4]) (t := 86) ?hr ?_; (case hd => rfl); (case hg => rfl); (case hr => first | (go_simp; done) | (go_simp; rfl)); intro gb420 hg w27 hbox hb; have BK420 := aM hbox; have GW420 := aM (zG hg : w.heap.size ≤ gb420); have GE420 := aM (zG hg : w.heap.size ≤ gb420); replace HB := cH HB hb; have NB419_420 := aM ((zL hg BK419)); have NB420_419 := aM ((zM hg BK419)); replace BK419 := cB BK419 hb; clear hb hbox hg; have hnb28 := NB419_420.out; have hnc28 := NB420_419.out; obtain ⟨hcz29_0, hcz29_1, hcz29_2, hcz29_3, hcz29_4⟩ := kk5 BK419; obtain ⟨hfz29_0, hfz29_1, hfz29_2, hfz29_3, hfz29_4⟩ := kg5 BK419) | (go_at_call 51; (with_reducible refine (impl_FrameOk.calls k a0_0 a0_1 a0_2 a0_3 _ _ l0_4 false _ ?side1 ?side2 A3.out).mono ?_); (case side1 => exact zC (Kd.C_below HR0_4.out HB.out)); (case side2 => exact HC0_4.out); rintro e w30 ⟨rfl, hb⟩; replace BK419 := cB BK419 hb; replace BK420 := cB BK420 hb; replace HB := cH HB hb; (try clear hb)))
  go_ret
  exact ⟨zR, zH⟩

theorem iScanOk_f (p w h r : Int) (l : List S74) (hl : l.length ≤ 1048576) (c : List Int) (hc : c.length ≤ 1048576) (f t hi lo : Int) : Ev (fun k => impl_ScanOk.f k p w h r l c f t hi lo) (scanB p w h r l c f t hi lo) := by
  unfold impl_ScanOk.f scanB
  refine evBind (iFrameOk_f p w h r l hl) (evIf (fun hb => ?_) (fun hb => by rw [Bool.eq_false_iff.2 hb]; exact Ev.now _))
  rw [hb, Bool.true_and]
  refine evBind (iComps_f p w h r l hl hb c hc) (evIf (fun h1 => ?_) (fun h1 => by rw [Bool.eq_false_iff.2 h1]; exact Ev.now _))
  rw [h1, Bool.true_and]
  exact evBind (evConst (isPass_f c f t hi lo)) (Ev.now _)

/-! ### impl_leftOf_1: function 70 (by hand) -/
/-- Where the first scan lies that a test takes; -1 if there is none. -/
def idxV {α : Type} (p : α → Bool) : List α → Nat → Int
  | [], _ => -1
  | x :: xs, i => if p x = true then (i : Int) else idxV p xs (i + 1)
theorem idxV_none {α : Type} (p : α → Bool) : ∀ (l : List α) (i : Nat), l.any p = false → idxV p l i = -1
  | [], _, _ => rfl
  | x :: xs, i, h => by
    rw [List.any_cons, Bool.or_eq_false_iff] at h
    rw [idxV, h.1, if_neg (by simp)]
    exact idxV_none p xs (i + 1) h.2
theorem idxV_nonneg {α : Type} (p : α → Bool) : ∀ (l : List α) (i : Nat), decide (0 ≤ idxV p l i) = l.any p
  | [], _ => rfl
  | x :: xs, i => by
    rw [idxV, List.any_cons]
    cases h : p x with
    | true => rw [if_pos rfl]; simp
    | false => rw [if_neg (by simp), Bool.false_or]; exact idxV_nonneg p xs (i + 1)
theorem idxV_at {α : Type} (p : α → Bool) : ∀ (l : List α) (i k : Nat) (hk : k < l.length), (∀ j (hj : j < l.length), j < k → p l[j] = false) → p l[k] = true → idxV p l i = ((i + k : Nat) : Int)
  | [], _, k, hk, _, _ => by simp at hk
  | x :: xs, i, 0, _, _, h => by
    have h2 : p x = true := h
    rw [idxV, if_pos h2]
    simp
  | x :: xs, i, k + 1, hk, h0, h => by
    have hx : p x = false := h0 0 (by simp) (by omega)
    rw [idxV, hx, if_neg (by simp)]
    have := idxV_at p xs (i + 1) k (by simpa using hk) (fun j hj hjk => h0 (j + 1) (by simpa using hj) (by omega)) h
    rw [this, show i + 1 + k = i + (k + 1) from by omega]
set_option maxHeartbeats 8000000 in
set_option maxRecDepth 100000 in
theorem indexFunc_Scan (cl : Nat) (lb : Array Value) (p : S86 → Bool) (A : Option Addr) (c : Nat) (l : List S86) (W : World) (hr : Kd.C k86 W A l.length l)
    (eg : ∀ args w, (callFunc cl args).run Try.prog w = .ok (.enter cl args) w)
    (hp : ∀ (W' : World) (Ab : Option Addr) (cb : Nat) (x : S86), x ∈ l → Below W.heap.size W W' → Kd.C (Kd.int .i64) W' Ab x.f0.length x.f0 → x.f0.length ≤ cb → Calls Try.prog cl (#[.agg #[.slice Ab x.f0.length cb, .int .i64 x.f1, .int .i64 x.f2, .int .i64 x.f3, .int .i64 x.f4]] ++ lb) W' fun e w' => e = .returned (.bool (p x)) ∧ Below W.heap.size W w') :
    Calls Try.prog 85 #[.slice A l.length c, .func (.func cl) #[] lb] W fun e w' => e = .returned (.int .i64 (idxV p l 0)) ∧ Below W.heap.size W w' := by
  have hmax := Kd.C_max hr
  have HR := Aside0.mk hr
  have HP := Aside0.mk hp
  clear hr hp
  have HB := Aside0.mk (Below.refl W.heap.size W)
  go_enter Try.func85, Try.ntmps85
  go_wp2
  go_loopg [5, 8] l.length (fun gg _ s8 wr => ∃ kk : Nat, kk ≤ l.length ∧ l.length - kk ≤ gg ∧ s8 = .int .i64 (kk : Int) ∧ Aside0 (Below W.heap.size W wr) ∧ Aside0 (∀ j (hj : j < l.length), j < kk → p l[j] = false))
  case atStart => exact ⟨0, Nat.zero_le _, by omega, rfl, HB, ⟨fun j _ hj => absurd hj (Nat.not_lt_zero _)⟩⟩
  case round =>
    clear HB
    obtain ⟨kk, hkk, hg, rfl, BW, AN⟩ := hrel
    by_cases hlt : kk < l.length
    · have hltz : (kk : Int) < (l.length : Int) := by omega
      have h0z : (0 : Int) ≤ (kk : Int) := by omega
      have d1 : decide ((kk : Int) < (l.length : Int)) = true := decide_eq_true hltz
      have d2 : decide ((0 : Int) ≤ (kk : Int)) = true := decide_eq_true h0z
      obtain ⟨ad, A1, c1, e1, hx0, hx1, hx2, hx3, hx4, hl1, hi1⟩ := at_T86 (Kd.C_below HR.out BW.out) (kk : Int) h0z hltz
      cases e1
      rw [Int.toNat_natCast] at hx0 hx1 hx2 hx3 hx4
      have EY : Aside0 (rd_T86 l (kk : Int) = l[kk]) := ⟨by simp [rd_T86, List.getD, hlt]⟩
      obtain ⟨xe, hxe⟩ : ∃ xe : S86, xe = rd_T86 l (kk : Int) := ⟨_, rfl⟩
      rw [← hxe] at hx0 hx1 hx2 hx3 hx4 hl1 hi1
      have hcall := HP.out wr A1 c1 xe (by rw [hxe, EY.out]; exact List.getElem_mem _) BW.out hi1 hl1
      have EX := Aside0.mk hxe
      clear hxe hi1 hl1
      cases hq : p xe with
      | true =>
        rw [hq] at hcall
        have HQ := Aside0.mk hq
        clear hq
        go_wp2_with (go_at_fn cl; refine hcall.mono ?_; rintro e w' ⟨rfl, hb'⟩)
        go_ret
        refine ⟨?_, hb'⟩
        have hh := HQ.out
        rw [EX.out, EY.out] at hh
        have := idxV_at p l 0 kk hlt AN.out hh
        rw [Nat.zero_add] at this
        rw [this]
        rfl
      | false =>
        rw [hq] at hcall
        have HQ := Aside0.mk hq
        clear hq
        go_wp2_with (go_at_fn cl; refine hcall.mono ?_; rintro e w' ⟨rfl, hb'⟩)
        go_roundg (l.length - (kk + 1))
        case measure => omega
        case rel =>
          refine ⟨kk + 1, by omega, by omega, by go_num, ⟨hb'⟩, ⟨fun j hj hjk => ?_⟩⟩
          by_cases e : j = kk
          · subst e
            have hh := HQ.out
            rwa [EX.out, EY.out] at hh
          · exact AN.out j hj (by omega)
    · have d1 : decide ((kk : Int) < (l.length : Int)) = false := decide_eq_false (by omega)
      go_wp2
      go_ret
      refine ⟨?_, BW.out⟩
      rw [idxV_none p l 0 (by
        rw [List.any_eq_false]
        intro x hx
        obtain ⟨j, hj, rfl⟩ := List.getElem_of_mem hx
        rw [AN.out j hj (by omega)]
        simp)]
      rfl
set_option maxHeartbeats 8000000 in
set_option maxRecDepth 100000 in
theorem containsFunc_Scan (cl : Nat) (lb : Array Value) (p : S86 → Bool) (A : Option Addr) (c : Nat) (l : List S86) (W : World) (hr : Kd.C k86 W A l.length l)
    (eg : ∀ args w, (callFunc cl args).run Try.prog w = .ok (.enter cl args) w)
    (hp : ∀ (W' : World) (Ab : Option Addr) (cb : Nat) (x : S86), x ∈ l → Below W.heap.size W W' → Kd.C (Kd.int .i64) W' Ab x.f0.length x.f0 → x.f0.length ≤ cb → Calls Try.prog cl (#[.agg #[.slice Ab x.f0.length cb, .int .i64 x.f1, .int .i64 x.f2, .int .i64 x.f3, .int .i64 x.f4]] ++ lb) W' fun e w' => e = .returned (.bool (p x)) ∧ Below W.heap.size W w') :
    Calls Try.prog 69 #[.slice A l.length c, .func (.func cl) #[] lb] W fun e w' => e = .returned (.bool (l.any p)) ∧ Below W.heap.size W w' := by
  have HR := Aside0.mk hr
  have HP := Aside0.mk hp
  clear hr hp
  rw [← idxV_nonneg p l 0]
  go_enter Try.func69, Try.ntmps69
  go_wp2_with (go_at_call 85; refine (indexFunc_Scan cl lb p A c l _ HR.out eg HP.out).mono ?_; rintro e w' ⟨rfl, hb'⟩)
  go_ret
  exact ⟨rfl, hb'⟩
set_option maxHeartbeats 8000000 in
set_option maxRecDepth 100000 in
theorem leftOf1_one (g : Nat) (c0 c1 c2 c3 : Int) (A4 : Option Addr) (c4 : Nat) (l4 : List S74) (x : S86) (Ab : Option Addr) (cb : Nat) (w W : World)
    (hbx : w.heap[g]? = some (.cells #[.int .i64 c0, .int .i64 c1, .int .i64 c2, .int .i64 c3, .slice A4 l4.length c4] 37 (0, 0))) (hb : Below w.heap.size w W)
    (hr4 : Kd.C k74 w A4 l4.length l4) (hc4 : l4.length ≤ c4) (hl4 : l4.length ≤ 1048576) (hr : Kd.C (Kd.int .i64) W Ab x.f0.length x.f0) (hc : x.f0.length ≤ cb) (hx : x.f0.length ≤ 1048576) :
    Calls Try.prog 70 (#[.agg #[.slice Ab x.f0.length cb, .int .i64 x.f1, .int .i64 x.f2, .int .i64 x.f3, .int .i64 x.f4]] ++ #[.pointer (some ⟨g, 0, none⟩)]) W fun e w' => e = .returned (.bool (!(scanB c0 c1 c2 c3 l4 x.f0 x.f1 x.f2 x.f3 x.f4))) ∧ Below w.heap.size w w' := by
  obtain ⟨k, hk⟩ := (iScanOk_f c0 c1 c2 c3 l4 hl4 x.f0 hx x.f1 x.f2 x.f3 x.f4).rounds
  have hx0 : W.cell? ⟨g, 0, none⟩ = some (.int .i64 c0) := (blk_cell (blk_below hbx hb) 0).trans rfl
  have hx1 : W.cell? ⟨g, 1, none⟩ = some (.int .i64 c1) := (blk_cell (blk_below hbx hb) 1).trans rfl
  have hx2 : W.cell? ⟨g, 2, none⟩ = some (.int .i64 c2) := (blk_cell (blk_below hbx hb) 2).trans rfl
  have hx3 : W.cell? ⟨g, 3, none⟩ = some (.int .i64 c3) := (blk_cell (blk_below hbx hb) 3).trans rfl
  have hx4 : W.cell? ⟨g, 4, none⟩ = some (.slice A4 l4.length c4) := (blk_cell (blk_below hbx hb) 4).trans rfl
  have HB := Aside0.mk hb
  have HCALL := Aside0.mk (fun W' (hb' : Below W.heap.size W W') => impl_ScanOk.calls k c0 c1 c2 c3 A4 c4 l4 Ab cb x.f0 x.f1 x.f2 x.f3 x.f4 _ W' (Kd.C_below (Kd.C_below hr4 hb) hb') hc4 (Kd.C_below hr hb') hc hk)
  have hlt := World.block_lt_of_cell? W _ hx0
  clear hb hbx hr4 hr hk hc hc4
  generalize scanB c0 c1 c2 c3 l4 x.f0 x.f1 x.f2 x.f3 x.f4 = t at HCALL ⊢
  have hu := Try.underlying37
  have hu2 := Try.underlying86
  go_enter Try.func70, Try.ntmps70
  go_wp2_with (go_at_call 71; refine (HCALL.out _ (by repeat (first | exact Below.refl _ _ | apply below_alloc | apply pw_below_drewN | apply below_drew1))).mono ?_; rintro e w' ⟨rfl, hb'⟩; have HB2 := Aside0.mk (below_step (by repeat (first | exact HB.out | apply below_alloc | apply pw_below_drewN | apply below_drew1)) hb'); clear hb')
  go_ret
  exact ⟨by cases t <;> rfl, by repeat (first | exact HB2.out | apply below_alloc | apply pw_below_drewN | apply below_drew1)⟩
def impl_leftOf_1.f (l : List S86) (c0 c1 c2 c3 : Int) (l4 : List S74) : Option Bool := if l4.length ≤ 1048576 ∧ ∀ s ∈ l, s.f0.length ≤ 1048576 then some (l.any fun x => !(scanB c0 c1 c2 c3 l4 x.f0 x.f1 x.f2 x.f3 x.f4)) else none
theorem impl_leftOf_1.calls (A : Option Addr) (c : Nat) (l : List S86) (g : Nat) (c0 c1 c2 c3 : Int) (A4 : Option Addr) (c4 : Nat) (l4 : List S74) (r : Bool) (w : World) (hr : Kd.C k86 w A l.length l) (_hc : l.length ≤ c) (hr4 : Kd.C k74 w A4 l4.length l4) (hc4 : l4.length ≤ c4)
  (hbx : w.heap[g]? = some (.cells #[.int .i64 c0, .int .i64 c1, .int .i64 c2, .int .i64 c3, .slice A4 l4.length c4] 37 (0, 0))) (h : impl_leftOf_1.f l c0 c1 c2 c3 l4 = some r) :
  Calls Try.prog 69 #[.slice A l.length c, .func (.func 70) #[] #[.pointer (some ⟨g, 0, none⟩)]] w fun e w' => e = .returned (.bool r) ∧ Below w.heap.size w w' := by
 unfold impl_leftOf_1.f at h
 by_cases hg : l4.length ≤ 1048576 ∧ ∀ s ∈ l, s.f0.length ≤ 1048576
 ·rw [if_pos hg] at h
  obtain rfl := Option.some.inj h
  exact containsFunc_Scan 70 _ (fun x => !(scanB c0 c1 c2 c3 l4 x.f0 x.f1 x.f2 x.f3 x.f4)) A c l w hr (enters_of Try.func70 (by kernel_rfl) rfl) (fun W' Ab cb x hm hb hr hc => leftOf1_one g c0 c1 c2 c3 A4 c4 l4 x Ab cb w W' hbx hb hr4 hc4 hg.1 hr hc (hg.2 x hm))
 ·rw [if_neg hg] at h
  exact absurd h (by simp)

/-! ### bits_Mul32: function 91 -/
def bits_Mul32.f (a0 : Int) (a1 : Int) : Option (Int × Int) := some (((IntKind.u64.wrap ((IntKind.u64.wrap (a0)) * (IntKind.u64.wrap (a1)))) / 4294967296) % 4294967296, (IntKind.u64.wrap ((IntKind.u64.wrap (a0)) * (IntKind.u64.wrap (a1)))) % 4294967296)
set_option maxHeartbeats 8000000 in
set_option maxRecDepth 100000 in
theorem bits_Mul32.calls (a0 : Int) (a1 : Int) (r1 : Int) (r2 : Int) (w : World) (h : bits_Mul32.f a0 a1 = some (r1, r2)) :
  Calls Try.prog 91 #[.int .u32 a0, .int .u32 a1] w fun e w' => e = .returned (.tuple #[.int .u32 r1, .int .u32 r2]) ∧ Drawn0 w w' := by
 have H : (some (((IntKind.u64.wrap ((IntKind.u64.wrap (a0)) * (IntKind.u64.wrap (a1)))) / 4294967296) % 4294967296, (IntKind.u64.wrap ((IntKind.u64.wrap (a0)) * (IntKind.u64.wrap (a1)))) % 4294967296)) = some (r1, r2) := h
 clear h
 simp only [Option.some.injEq, Prod.mk.injEq] at H
 obtain ⟨rfl, rfl⟩ := H
 go_enter Try.func91, Try.ntmps91
 go_wp2
 go_ret2
 exact ⟨by first | rfl | (simp; done) | (simp [*]; done), by repeat (first | exact Drawn0.refl _ | apply Drawn0.step)⟩

/-! ### bits_Mul64: function 92 -/
def bits_Mul64.f (a0 : Int) (a1 : Int) : Option (Int × Int) := some (IntKind.u64.wrap ((IntKind.u64.wrap ((IntKind.u64.wrap ((a0 / 4294967296) * (a1 / 4294967296))) + ((IntKind.u64.wrap ((IntKind.u64.wrap ((a0 / 4294967296) * (Go.bits .and .u64 a1 4294967295))) + ((IntKind.u64.wrap ((Go.bits .and .u64 a0 4294967295) * (Go.bits .and .u64 a1 4294967295))) / 4294967296))) / 4294967296))) + ((IntKind.u64.wrap ((Go.bits .and .u64 (IntKind.u64.wrap ((IntKind.u64.wrap ((a0 / 4294967296) * (Go.bits .and .u64 a1 4294967295))) + ((IntKind.u64.wrap ((Go.bits .and .u64 a0 4294967295) * (Go.bits .and .u64 a1 4294967295))) / 4294967296))) 4294967295) + (IntKind.u64.wrap ((Go.bits .and .u64 a0 4294967295) * (a1 / 4294967296))))) / 4294967296)), IntKind.u64.wrap (a0 * a1))
set_option maxHeartbeats 8000000 in
set_option maxRecDepth 100000 in
theorem bits_Mul64.calls (a0 : Int) (a1 : Int) (r1 : Int) (r2 : Int) (w : World) (h : bits_Mul64.f a0 a1 = some (r1, r2)) :
  Calls Try.prog 92 #[.int .u64 a0, .int .u64 a1] w fun e w' => e = .returned (.tuple #[.int .u64 r1, .int .u64 r2]) ∧ Drawn0 w w' := by
 have H : (some (IntKind.u64.wrap ((IntKind.u64.wrap ((IntKind.u64.wrap ((a0 / 4294967296) * (a1 / 4294967296))) + ((IntKind.u64.wrap ((IntKind.u64.wrap ((a0 / 4294967296) * (Go.bits .and .u64 a1 4294967295))) + ((IntKind.u64.wrap ((Go.bits .and .u64 a0 4294967295) * (Go.bits .and .u64 a1 4294967295))) / 4294967296))) / 4294967296))) + ((IntKind.u64.wrap ((Go.bits .and .u64 (IntKind.u64.wrap ((IntKind.u64.wrap ((a0 / 4294967296) * (Go.bits .and .u64 a1 4294967295))) + ((IntKind.u64.wrap ((Go.bits .and .u64 a0 4294967295) * (Go.bits .and .u64 a1 4294967295))) / 4294967296))) 4294967295) + (IntKind.u64.wrap ((Go.bits .and .u64 a0 4294967295) * (a1 / 4294967296))))) / 4294967296)), IntKind.u64.wrap (a0 * a1))) = some (r1, r2) := h
 clear h
 simp only [Option.some.injEq, Prod.mk.injEq] at H
 obtain ⟨rfl, rfl⟩ := H
 go_enter Try.func92, Try.ntmps92
 go_wp2
 go_ret2
 exact ⟨by first | rfl | (simp; done) | (simp [*]; done), by repeat (first | exact Drawn0.refl _ | apply Drawn0.step)⟩

/-! ### bits_Mul: function 90 -/
def bits_Mul.f (a0 : Int) (a1 : Int) : Option (Int × Int) := (bits_Mul64.f a0 a1).bind fun bt424 => (some (bt424.1, bt424.2))
set_option maxHeartbeats 8000000 in
set_option maxRecDepth 100000 in
theorem bits_Mul.calls (a0 : Int) (a1 : Int) (r1 : Int) (r2 : Int) (w : World) (h : bits_Mul.f a0 a1 = some (r1, r2)) :
  Calls Try.prog 90 #[.int .u64 a0, .int .u64 a1] w fun e w' => e = .returned (.tuple #[.int .u64 r1, .int .u64 r2]) ∧ Drawn0 w w' := by
 have H : ((bits_Mul64.f a0 a1).bind fun bt424 => (some (bt424.1, bt424.2))) = some (r1, r2) := h
 clear h
 replace H := oB H
 obtain ⟨⟨t424, t425⟩, A30, H⟩ := H
 replace H : (some (t424, t425)) = some (r1, r2) := H
 have A3 := aM A30
 clear A30
 simp only [Option.some.injEq, Prod.mk.injEq] at H
 obtain ⟨rfl, rfl⟩ := H
 go_enter Try.func90, Try.ntmps90
 go_wp2_with (first | (go_at_call 92; (with_reducible refine (bits_Mul64.calls a0 a1 t424 t425 _ A3.out).mono ?_); rintro e w' ⟨rfl, ⟨nd, rfl⟩⟩))
 go_ret2
 exact ⟨by first | rfl | (simp; done) | (simp [*]; done), by repeat (first | exact Drawn0.refl _ | apply Drawn0.step)⟩

end Go.Proofs.Ytpcfjobojdldnaa.CV
