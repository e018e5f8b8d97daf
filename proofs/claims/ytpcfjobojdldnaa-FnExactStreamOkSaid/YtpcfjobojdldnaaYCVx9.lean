/- Functions that a law of this seat reaches: written by a program of this session (wip/xprint.py), and by hand. -/
import Derived.Test.YtpcfjobojdldnaaYMac
import Derived.Test.YtpcfjobojdldnaaYCVx0
import Derived.Test.YtpcfjobojdldnaaYCVx1
import Derived.Test.YtpcfjobojdldnaaYCVx4
import Derived.Test.YtpcfjobojdldnaaYCVx5
import Derived.Test.YtpcfjobojdldnaaYCVx6
import Derived.Test.YtpcfjobojdldnaaYCVx7
import Derived.Test.YtpcfjobojdldnaaYCVx8
namespace Go.Proofs.Ytpcfjobojdldnaa.CV
open Go.RowKit Go.Proofs.Ytpcfjobojdldnaa.B Go.Proofs.YtpcfjobojdldnaaW.PrintWords Go.Proofs.YtpcfjobojdldnaaW.PrintLast Go.Proofs.YtpcfjobojdldnaaW.PrintMore
attribute [local go_sem] max2_int min2_int max_two min_two max_three min_three max_four min_four   -- for this text's walks alone
set_option linter.unusedVariables false
set_option linter.unusedSimpArgs false

def blockB (w h : Int) (l : List S74) (i wide k : Int) (b : List Int) : Bool := numsB b (-16383) 16383 && (!(hiddenB w h l i (wrap64 (Int.tdiv k wide)) (Int.tmod k wide)) || allR b 0 0)
def planeB3 (w h : Int) (l : List S74) (i wide : Int) (P : List (List Int)) : Nat → Nat → Bool
  | 0, _ => true
  | d + 1, k => blockB w h l i wide k (rd_L2 P (k : Int)) && planeB3 w h l i wide P d (k + 1)
def planesB (w h : Int) (l : List S74) (c : List (List (List Int))) : Nat → Nat → Bool
  | 0, _ => true
  | d + 1, i => decide (((rd_L3 c (i : Int)).length : Int) = wrap64 ((blocksI w h l i).1 * (blocksI w h l i).2)) && (planeB3 w h l i (blocksI w h l i).1 (rd_L3 c (i : Int)) (rd_L3 c (i : Int)).length 0 && planesB w h l c d (i + 1))
def coefsB (p w h r : Int) (l : List S74) (c : List (List (List Int))) : Bool := frameB p w h r l && (decide ((c.length : Int) = (l.length : Int)) && planesB w h l c c.length 0)
theorem sCoefs_l1 {p w h r : Int} {l : List S74} (hl : l.length ≤ 1048576) (hb : frameB p w h r l = true) (c : List (List (List Int))) (i : Nat) (hi : i < c.length) (hil : i < l.length) (P : List (List Int)) (hP : rd_L3 c (i : Int) = P) (hPl : P.length ≤ 1048576)
    (A B : Int) (hlen : (P.length : Int) = wrap64 (A * B)) (R : Bool) (hR : Ev (fun n => spec_CoefsOk.l0 n (wrap64 ((i : Int) + 1)) p w h r l c) R) :
    ∀ (d k : Nat), k + d = P.length → Ev (fun n => spec_CoefsOk.l1 n i A B k p w h r l c) (planeB3 w h l i A P d k && R) := by
  intro d
  induction d with
  | zero =>
    intro k hk
    refine Ev.step (fun n => by rw [spec_CoefsOk.l1]) (evNeg (by omega) ?_)
    rw [planeB3, Bool.true_and]
    exact hR
  | succ d ih =>
    intro k hk
    have hA : ¬ A = 0 := fun e => by rw [e, Int.zero_mul, show wrap64 0 = 0 from w64 (by omega) (by omega)] at hlen; omega
    have hkl : k < P.length := by omega
    refine Ev.step (fun n => by rw [spec_CoefsOk.l1]) (evPos (by omega) (evPos (by omega) (evPos (by omega) (evPos (by omega) ?_))))
    rw [hP]
    refine evPos (by omega) ?_
    rw [planeB3]
    unfold blockB
    refine evBind (sLevel_f _) (evIf (fun h1 => ?_) (fun h1 => by rw [Bool.eq_false_iff.2 h1]; exact Ev.now _))
    rw [h1, Bool.true_and]
    refine evNeg hA (evBind (sHidden_f hl hb i _ _ (by omega) (by omega)) ?_)
    have hn := ih (k + 1) (by omega)
    rw [w64 (x := (k : Int) + 1) (by omega) (by omega)]
    refine evIf (fun h2 => ?_) (fun h2 => ?_)
    · rw [h2]
      refine evBind (sZero_f _ (by have := nums_len h1; omega)) (evIf (fun h3 => ?_) (fun h3 => ?_))
      · rw [h3]; simpa using hn
      · rw [Bool.eq_false_iff.2 h3]; exact Ev.now _
    · rw [Bool.eq_false_iff.2 h2]; simpa using hn
theorem sCoefs_l0 {p w h r : Int} {l : List S74} (hl : l.length ≤ 1048576) (hb : frameB p w h r l = true) (c : List (List (List Int))) (hc : c.length = l.length) (hx : ∀ x ∈ c, BndS 1048576 x) :
    ∀ (d i : Nat), i + d = c.length → Ev (fun n => spec_CoefsOk.l0 n i p w h r l c) (planesB w h l c d i) := by
  intro d
  induction d with
  | zero =>
    intro i hi
    refine Ev.step (fun n => by rw [spec_CoefsOk.l0]) (evNeg (by omega) ?_)
    exact Ev.now _
  | succ d ih =>
    intro i hi
    have hic : i < c.length := by omega
    refine Ev.step (fun n => by rw [spec_CoefsOk.l0]) (evPos (by omega) ?_)
    refine evBind (sBlocks_f hl hb i (by omega) (by omega)) (evPos (by omega) ?_)
    rw [planesB]
    refine evIf (fun h1 => ?_) (fun h1 => by rw [decide_eq_false h1]; exact Ev.now _)
    rw [decide_eq_true h1, Bool.true_and]
    refine sCoefs_l1 hl hb c i hic (by omega) _ rfl ?_ _ _ h1 _ ?_ _ 0 (by omega)
    · rw [rdSSS_nat hic]
      have := (hx _ (List.getElem_mem hic)).1
      omega
    · rw [w64 (by omega) (by omega)]
      exact ih (i + 1) (by omega)
theorem sCoefsOk_f (p w h r : Int) (l : List S74) (hl : l.length ≤ 1048576) (c : List (List (List Int))) (hx : ∀ x ∈ c, BndS 1048576 x) : Ev (fun n => spec_CoefsOk.f n p w h r l c) (coefsB p w h r l c) := by
  unfold spec_CoefsOk.f coefsB
  refine evBind (sFrameOk_f p w h r l hl) (evIf (fun hb => ?_) (fun hb => ?_))
  · rw [hb, Bool.true_and]
    by_cases he : (c.length : Int) = (l.length : Int)
    · rw [decide_eq_true he, Bool.true_and, show ((c.length : Int) != (l.length : Int)) = false from by simp [he]]
      refine Ev.step (fun k => by rw [spec_CoefsOk.j0]) (evNeg (by simp) ?_)
      exact sCoefs_l0 hl hb c (by omega) hx c.length 0 (by omega)
    · rw [decide_eq_false he, Bool.false_and, show ((c.length : Int) != (l.length : Int)) = true from by simp [he]]
      refine Ev.step (fun k => by rw [spec_CoefsOk.j0]) (evPos rfl ?_)
      exact Ev.now _
  · rw [Bool.eq_false_iff.2 hb, Bool.false_and]
    refine Ev.step (fun k => by rw [spec_CoefsOk.j0]) (evPos rfl ?_)
    exact Ev.now _

/-! ### spec_l04Comps: function 79 -/
def spec_l04Comps.l0 : Nat → List Int → Int → Int → Int → Int → Int → List (S74) → Option (Bool)
  | 0, _, _, _, _, _, _, _ => none
  | k + 1, x1, x5, x243000, x243001, x243002, x243003, x243004 => if x5 < (x1.length : Int) then (if 0 ≤ x5 then ((spec_l01Between.f (rd x1 x5) 0 (wrap64 ((x243004.length : Int) - 1))).bind fun t244 => (if t244 = true then (if x5 > 0 then (if 0 ≤ (wrap64 (x5 - 1)) then (if (wrap64 (x5 - 1)) < (x1.length : Int) then (if (rd x1 (wrap64 (x5 - 1))) ≥ (rd x1 x5) then (some false) else (spec_l04Comps.l0 k x1 (wrap64 (x5 + 1)) x243000 x243001 x243002 x243003 x243004)) else (none)) else (none)) else (spec_l04Comps.l0 k x1 (wrap64 (x5 + 1)) x243000 x243001 x243002 x243003 x243004)) else (some false))) else (none)) else (some (decide ((x1.length : Int) > 0)))
def spec_l04Comps.f (k : Nat) (a0_0 : Int) (a0_1 : Int) (a0_2 : Int) (a0_3 : Int) (l0_4 : List (S74)) (l1 : List Int) : Option (Bool) := spec_l04Comps.l0 k l1 0 a0_0 a0_1 a0_2 a0_3 l0_4
theorem spec_l04Comps.mono_l : ∀ k, (∀ y0 y1 y2 y3 y4 y5 y6, LeO (spec_l04Comps.l0 k y0 y1 y2 y3 y4 y5 y6) (spec_l04Comps.l0 (k + 1) y0 y1 y2 y3 y4 y5 y6))
 | 0 => fun _ _ _ _ _ _ _ r h => by simp [spec_l04Comps.l0] at h
 | k + 1 => by
  have ih0 := spec_l04Comps.mono_l k
  ·intro y0 y1 y2 y3 y4 y5 y6
   unfold spec_l04Comps.l0
   repeat' first
   | (with_reducible exact ih0 _ _ _ _ _ _ _)
   | (with_reducible exact LeO.refl _)
   | (with_reducible exact LeO.none _)
   | (with_reducible refine LeO.ite ?_ ?_)
   | (with_reducible refine LeO.bind ?_ (fun _ => ?_))
   | exact ih0 _ _ _ _ _ _ _
   | exact LeO.none _
   | refine LeO.ite ?_ ?_
   | refine LeO.bind ?_ (fun _ => ?_)
theorem spec_l04Comps.mono : ∀ a0 a1 a2 a3 a4 a5 k, LeO (spec_l04Comps.f k a0 a1 a2 a3 a4 a5) (spec_l04Comps.f (k + 1) a0 a1 a2 a3 a4 a5) := by
 intro a0 a1 a2 a3 a4 a5 k
 have ih0 := spec_l04Comps.mono_l k
 unfold spec_l04Comps.f
 repeat' first
   | (with_reducible exact ih0 _ _ _ _ _ _ _)
   | (with_reducible exact LeO.refl _)
   | (with_reducible exact LeO.none _)
   | (with_reducible refine LeO.ite ?_ ?_)
   | (with_reducible refine LeO.bind ?_ (fun _ => ?_))
   | exact ih0 _ _ _ _ _ _ _
   | exact LeO.none _
   | refine LeO.ite ?_ ?_
   | refine LeO.bind ?_ (fun _ => ?_)
set_option maxHeartbeats 8000000 in
set_option maxRecDepth 100000 in
theorem spec_l04Comps.calls (k : Nat) (a0_0 : Int) (a0_1 : Int) (a0_2 : Int) (a0_3 : Int) (A0_4 : Option Addr) (c0_4 : Nat) (l0_4 : List (S74)) (A1 : Option Addr) (c1 : Nat) (l1 : List Int) (r : Bool) (w : World) (hr0_4 : Kd.C k74 w A0_4 l0_4.length l0_4) (hc0_4 : l0_4.length ≤ c0_4) (hr1 : Kd.C (Kd.int .i64) w A1 l1.length l1) (hc1 : l1.length ≤ c1) (h : spec_l04Comps.f k a0_0 a0_1 a0_2 a0_3 l0_4 l1 = some r) :
  Calls Try.prog 79 #[.agg #[.int .i64 a0_0, .int .i64 a0_1, .int .i64 a0_2, .int .i64 a0_3, .slice A0_4 l0_4.length c0_4], .slice A1 l1.length c1] w fun e w' => e = .returned (.bool r) ∧ Below w.heap.size w w' := by
 have hu37 := Try.underlying37
 have HR0_4 := aM hr0_4
 have HC0_4 := aM hc0_4
 clear hr0_4 hc0_4
 have HR1 := aM hr1
 have HC1 := aM hc1
 clear hr1 hc1
 have HB := aM (Below.refl w.heap.size w)
 have H : (spec_l04Comps.l0 k l1 0 a0_0 a0_1 a0_2 a0_3 l0_4) = some r := h
 clear h
 have H' := aM H
 clear H
 go_enter Try.func79, Try.ntmps79
 repeat (go_wp2_with (first | ((with_reducible refine gate_dst (N := 2) rfl ?_); refine box_event ?hg (N := 2) ?hd (cs := #[.int .i64 a0_0, .int .i64 a0_1, .int .i64 a0_2, .int .i64 a0_3, .slice A0_4 l0_4.length c0_4]) (t := 37) ?hr ?_; (case hd => rfl); (case hg => rfl); (case hr => first | (go_simp; done) | (go_simp; rfl)); intro gb242 hg w3 hbox hb; have BK242 := aM hbox; have GW242 := aM (zG hg : w.heap.size ≤ gb242); have GE242 := aM (zG hg : w.heap.size ≤ gb242); replace HB := cH HB hb; clear hb hbox hg)); go_quiet (fail))
 try go_wp2_with (first | ((with_reducible refine gate_dst (N := 2) rfl ?_); refine box_event ?hg (N := 2) ?hd (cs := #[.int .i64 a0_0, .int .i64 a0_1, .int .i64 a0_2, .int .i64 a0_3, .slice A0_4 l0_4.length c0_4]) (t := 37) ?hr ?_; (case hd => rfl); (case hg => rfl); (case hr => first | (go_simp; done) | (go_simp; rfl)); intro gb242 hg w3 hbox hb; have BK242 := aM hbox; have GW242 := aM (zG hg : w.heap.size ≤ gb242); have GE242 := aM (zG hg : w.heap.size ≤ gb242); replace HB := cH HB hb; clear hb hbox hg))
 go_loopg [5] k (fun kq v5 w' => ∃ (x5_1 : Int), v5 = .int .i64 x5_1 ∧ Aside0 (spec_l04Comps.l0 kq l1 x5_1 a0_0 a0_1 a0_2 a0_3 l0_4 = some r) ∧ Aside0 (kq ≤ k) ∧ Aside0 (w'.heap[gb242]? = some (.cells #[.int .i64 a0_0, .int .i64 a0_1, .int .i64 a0_2, .int .i64 a0_3, (.slice A0_4 l0_4.length c0_4)] 37 (0, 0))) ∧ Aside0 (Below w.heap.size w w'))
 case atStart => exact ⟨(0), zS, H', ⟨Nat.le_refl _⟩, ⟨zK BK242⟩, ⟨zH⟩⟩
 case round =>
  clear H'
  try clear c1
  obtain ⟨x5_1, rfl, HA, HK1, BK242, HB⟩ := hrel
  cases gk with
  | zero => exact absurd HA.out (by simp [spec_l04Comps.l0])
  | succ k1 =>
   have H := HA.out
   clear HA
   simp only [spec_l04Comps.l0] at H
   by_cases c4 : x5_1 < (l1.length : Int)
   ·rw [if_pos c4] at H
    have c4b0 : decide (x5_1 < (l1.length : Int)) = true := decide_eq_true c4
    clear c4
    by_cases c5 : 0 ≤ x5_1
    ·rw [if_pos c5] at H
     have c5b0 : decide (0 ≤ x5_1) = true := decide_eq_true c5
     clear c5
     obtain ⟨t244, A6, H⟩ := oH H
     by_cases c7 : t244 = true
     ·subst c7
      replace H := iT H
      by_cases c8 : x5_1 > 0
      ·rw [if_pos c8] at H
       have c8b0 : decide (0 < x5_1) = true := decide_eq_true c8
       clear c8
       obtain ⟨ji9, hji9⟩ : ∃ j_ : Int, (wrap64 (x5_1 - 1)) = j_ := ⟨_, rfl⟩
       replace H : (if 0 ≤ (ji9) then (if (ji9) < (l1.length : Int) then (if (rd l1 (ji9)) ≥ (rd l1 x5_1) then (some false) else (spec_l04Comps.l0 k1 l1 (wrap64 (x5_1 + 1)) a0_0 a0_1 a0_2 a0_3 l0_4)) else (none)) else (none)) = some r := by first | (rw [hji9] at H; exact H) | (simp only [hji9] at H ⊢; exact H)
       (try rw [hji9] at A6)
       have hji9w : (IntKind.i64.wrap (x5_1 - 1)) = ji9 := (i64_w _).trans hji9
       by_cases c10 : 0 ≤ (ji9)
       ·rw [if_pos c10] at H
        have c10b0 : decide (0 ≤ (ji9)) = true := decide_eq_true c10
        clear c10
        by_cases c11 : (ji9) < (l1.length : Int)
        ·rw [if_pos c11] at H
         have c11b0 : decide ((ji9) < (l1.length : Int)) = true := decide_eq_true c11
         clear c11
         by_cases c12 : (rd l1 (ji9)) ≥ (rd l1 x5_1)
         ·rw [if_pos c12] at H
          have c12b0 : decide ((rd l1 x5_1) ≤ (rd l1 (ji9))) = true := decide_eq_true c12
          clear c12
          obtain rfl := Option.some.inj H
          have p243 : 0 ≤ (x5_1 : Int) := zA
          have q243 : x5_1 < (l1.length : Int) := zA
          obtain ⟨ad243, e243, hx243_0⟩ := Kd.at_int HR1.out x5_1 p243 q243
          cases e243
          replace hx243_0 := hX HB hx243_0
          replace p243 := eq_true p243
          replace q243 := eq_true q243
          obtain ⟨hcz13_0, hcz13_1, hcz13_2, hcz13_3, hcz13_4⟩ := kk5 BK242
          go_wp2_with (first | (go_at_call 16; (with_reducible refine (spec_l01Between.calls (rd l1 x5_1) 0 (wrap64 ((l0_4.length : Int) - 1)) true _ A6.out).mono ?_); rintro e w' ⟨rfl, ⟨nd, rfl⟩⟩; (try exact zD); have p245 : 0 ≤ ((ji9) : Int) := zA; have q245 : (ji9) < (l1.length : Int) := zA; obtain ⟨ad245, e245, hx245_0⟩ := Kd.at_int HR1.out (ji9) p245 q245; obtain rfl : ad243 = ad245 := (by injection e245); replace hx245_0 := hX HB hx245_0; replace p245 := eq_true p245; replace q245 := eq_true q245; have p246 : 0 ≤ (x5_1 : Int) := zA; have q246 : x5_1 < (l1.length : Int) := zA; obtain ⟨ad246, e246, hx246_0⟩ := Kd.at_int HR1.out x5_1 p246 q246; obtain rfl : ad243 = ad246 := (by injection e246); replace hx246_0 := hX HB hx246_0; replace p246 := eq_true p246; replace q246 := eq_true q246))
          try (have p245 : 0 ≤ ((ji9) : Int) := zA; have q245 : (ji9) < (l1.length : Int) := zA; obtain ⟨ad245, e245, hx245_0⟩ := Kd.at_int HR1.out (ji9) p245 q245; obtain rfl : ad243 = ad245 := (by injection e245); replace hx245_0 := hX HB hx245_0; replace p245 := eq_true p245; replace q245 := eq_true q245; have p246 : 0 ≤ (x5_1 : Int) := zA; have q246 : x5_1 < (l1.length : Int) := zA; obtain ⟨ad246, e246, hx246_0⟩ := Kd.at_int HR1.out x5_1 p246 q246; obtain rfl : ad243 = ad246 := (by injection e246); replace hx246_0 := hX HB hx246_0; replace p246 := eq_true p246; replace q246 := eq_true q246)
          repeat (go_quiet (first | (go_at_call 16; (first | (with_reducible refine (spec_l01Between.calls (rd l1 x5_1) 0 (wrap64 ((l0_4.length : Int) - 1)) true _ A6.out).mono ?_) | ((simp only [i64_w]); (with_reducible refine (spec_l01Between.calls (rd l1 x5_1) 0 (wrap64 ((l0_4.length : Int) - 1)) true _ A6.out).mono ?_)) | (refine (spec_l01Between.calls (rd l1 x5_1) 0 (wrap64 ((l0_4.length : Int) - 1)) true _ A6.out).mono ?_)); rintro e w' ⟨rfl, ⟨nd, rfl⟩⟩; (try exact zD); all_goals (have p245 : 0 ≤ ((ji9) : Int) := zA; have q245 : (ji9) < (l1.length : Int) := zA; obtain ⟨ad245, e245, hx245_0⟩ := Kd.at_int HR1.out (ji9) p245 q245; obtain rfl : ad243 = ad245 := (by injection e245); replace hx245_0 := hX HB hx245_0; replace p245 := eq_true p245; replace q245 := eq_true q245; have p246 : 0 ≤ (x5_1 : Int) := zA; have q246 : x5_1 < (l1.length : Int) := zA; obtain ⟨ad246, e246, hx246_0⟩ := Kd.at_int HR1.out x5_1 p246 q246; obtain rfl : ad243 = ad246 := (by injection e246); replace hx246_0 := hX HB hx246_0; replace p246 := eq_true p246; replace q246 := eq_true q246))); try go_wp2_with (first | (go_at_call 16; (first | (with_reducible refine (spec_l01Between.calls (rd l1 x5_1) 0 (wrap64 ((l0_4.length : Int) - 1)) true _ A6.out).mono ?_) | ((simp only [i64_w]); (with_reducible refine (spec_l01Between.calls (rd l1 x5_1) 0 (wrap64 ((l0_4.length : Int) - 1)) true _ A6.out).mono ?_)) | (refine (spec_l01Between.calls (rd l1 x5_1) 0 (wrap64 ((l0_4.length : Int) - 1)) true _ A6.out).mono ?_)); rintro e w' ⟨rfl, ⟨nd, rfl⟩⟩; (try exact zD); all_goals (have p245 : 0 ≤ ((ji9) : Int) := zA; have q245 : (ji9) < (l1.length : Int) := zA; obtain ⟨ad245, e245, hx245_0⟩ := Kd.at_int HR1.out (ji9) p245 q245; obtain rfl : ad243 = ad245 := (by injection e245); replace hx245_0 := hX HB hx245_0; replace p245 := eq_true p245; replace q245 := eq_true q245; have p246 : 0 ≤ (x5_1 : Int) := zA; have q246 : x5_1 < (l1.length : Int) := zA; obtain ⟨ad246, e246, hx246_0⟩ := Kd.at_int HR1.out x5_1 p246 q246; obtain rfl : ad243 = ad246 := (by injection e246); replace hx246_0 := hX HB hx246_0; replace p246 := eq_true p246; replace q246 := eq_true q246))))
          go_ret
          exact ⟨by first | rfl | (simp [errW_none, errW_some] <;> rfl) | (simp only [← hji9]; first | rfl | (simp [errW_none, errW_some] <;> rfl)) | (simp [*, errW_none, errW_some] <;> rfl), zH⟩
         ·rw [if_neg c12] at H
          have c12b0 : decide ((rd l1 x5_1) ≤ (rd l1 (ji9))) = false := decide_eq_false c12
          clear c12
          have H' := aM H
          clear H
          have p243 : 0 ≤ (x5_1 : Int) := zA
          have q243 : x5_1 < (l1.length : Int) := zA
          obtain ⟨ad243, e243, hx243_0⟩ := Kd.at_int HR1.out x5_1 p243 q243
          cases e243
          replace hx243_0 := hX HB hx243_0
          replace p243 := eq_true p243
          replace q243 := eq_true q243
          obtain ⟨hcz14_0, hcz14_1, hcz14_2, hcz14_3, hcz14_4⟩ := kk5 BK242
          go_wp2_with (first | (go_at_call 16; (with_reducible refine (spec_l01Between.calls (rd l1 x5_1) 0 (wrap64 ((l0_4.length : Int) - 1)) true _ A6.out).mono ?_); rintro e w' ⟨rfl, ⟨nd, rfl⟩⟩; (try exact zD); have p245 : 0 ≤ ((ji9) : Int) := zA; have q245 : (ji9) < (l1.length : Int) := zA; obtain ⟨ad245, e245, hx245_0⟩ := Kd.at_int HR1.out (ji9) p245 q245; obtain rfl : ad243 = ad245 := (by injection e245); replace hx245_0 := hX HB hx245_0; replace p245 := eq_true p245; replace q245 := eq_true q245; have p246 : 0 ≤ (x5_1 : Int) := zA; have q246 : x5_1 < (l1.length : Int) := zA; obtain ⟨ad246, e246, hx246_0⟩ := Kd.at_int HR1.out x5_1 p246 q246; obtain rfl : ad243 = ad246 := (by injection e246); replace hx246_0 := hX HB hx246_0; replace p246 := eq_true p246; replace q246 := eq_true q246))
          try (have p245 : 0 ≤ ((ji9) : Int) := zA; have q245 : (ji9) < (l1.length : Int) := zA; obtain ⟨ad245, e245, hx245_0⟩ := Kd.at_int HR1.out (ji9) p245 q245; obtain rfl : ad243 = ad245 := (by injection e245); replace hx245_0 := hX HB hx245_0; replace p245 := eq_true p245; replace q245 := eq_true q245; have p246 : 0 ≤ (x5_1 : Int) := zA; have q246 : x5_1 < (l1.length : Int) := zA; obtain ⟨ad246, e246, hx246_0⟩ := Kd.at_int HR1.out x5_1 p246 q246; obtain rfl : ad243 = ad246 := (by injection e246); replace hx246_0 := hX HB hx246_0; replace p246 := eq_true p246; replace q246 := eq_true q246)
          repeat (go_quiet (first | (go_at_call 16; (first | (with_reducible refine (spec_l01Between.calls (rd l1 x5_1) 0 (wrap64 ((l0_4.length : Int) - 1)) true _ A6.out).mono ?_) | ((simp only [i64_w]); (with_reducible refine (spec_l01Between.calls (rd l1 x5_1) 0 (wrap64 ((l0_4.length : Int) - 1)) true _ A6.out).mono ?_)) | (refine (spec_l01Between.calls (rd l1 x5_1) 0 (wrap64 ((l0_4.length : Int) - 1)) true _ A6.out).mono ?_)); rintro e w' ⟨rfl, ⟨nd, rfl⟩⟩; (try exact zD); all_goals (have p245 : 0 ≤ ((ji9) : Int) := zA; have q245 : (ji9) < (l1.length : Int) := zA; obtain ⟨ad245, e245, hx245_0⟩ := Kd.at_int HR1.out (ji9) p245 q245; obtain rfl : ad243 = ad245 := (by injection e245); replace hx245_0 := hX HB hx245_0; replace p245 := eq_true p245; replace q245 := eq_true q245; have p246 : 0 ≤ (x5_1 : Int) := zA; have q246 : x5_1 < (l1.length : Int) := zA; obtain ⟨ad246, e246, hx246_0⟩ := Kd.at_int HR1.out x5_1 p246 q246; obtain rfl : ad243 = ad246 := (by injection e246); replace hx246_0 := hX HB hx246_0; replace p246 := eq_true p246; replace q246 := eq_true q246))); try go_wp2_with (first | (go_at_call 16; (first | (with_reducible refine (spec_l01Between.calls (rd l1 x5_1) 0 (wrap64 ((l0_4.length : Int) - 1)) true _ A6.out).mono ?_) | ((simp only [i64_w]); (with_reducible refine (spec_l01Between.calls (rd l1 x5_1) 0 (wrap64 ((l0_4.length : Int) - 1)) true _ A6.out).mono ?_)) | (refine (spec_l01Between.calls (rd l1 x5_1) 0 (wrap64 ((l0_4.length : Int) - 1)) true _ A6.out).mono ?_)); rintro e w' ⟨rfl, ⟨nd, rfl⟩⟩; (try exact zD); all_goals (have p245 : 0 ≤ ((ji9) : Int) := zA; have q245 : (ji9) < (l1.length : Int) := zA; obtain ⟨ad245, e245, hx245_0⟩ := Kd.at_int HR1.out (ji9) p245 q245; obtain rfl : ad243 = ad245 := (by injection e245); replace hx245_0 := hX HB hx245_0; replace p245 := eq_true p245; replace q245 := eq_true q245; have p246 : 0 ≤ (x5_1 : Int) := zA; have q246 : x5_1 < (l1.length : Int) := zA; obtain ⟨ad246, e246, hx246_0⟩ := Kd.at_int HR1.out x5_1 p246 q246; obtain rfl : ad243 = ad246 := (by injection e246); replace hx246_0 := hX HB hx246_0; replace p246 := eq_true p246; replace q246 := eq_true q246))))
          go_roundg k1
          case measure => have := HK1.out; omega
          case rel => exact ⟨(wrap64 (x5_1 + 1)), zS, H', ⟨by have := HK1.out; omega⟩, ⟨zK BK242⟩, ⟨zH⟩⟩
        ·rw [if_neg c11] at H
         exact absurd H (by simp)
       ·rw [if_neg c10] at H
        exact absurd H (by simp)
      ·rw [if_neg c8] at H
       have c8b0 : decide (0 < x5_1) = false := decide_eq_false c8
       clear c8
       have H' := aM H
       clear H
       have p243 : 0 ≤ (x5_1 : Int) := zA
       have q243 : x5_1 < (l1.length : Int) := zA
       obtain ⟨ad243, e243, hx243_0⟩ := Kd.at_int HR1.out x5_1 p243 q243
       cases e243
       replace hx243_0 := hX HB hx243_0
       replace p243 := eq_true p243
       replace q243 := eq_true q243
       obtain ⟨hcz15_0, hcz15_1, hcz15_2, hcz15_3, hcz15_4⟩ := kk5 BK242
       go_wp2_with (first | (go_at_call 16; (with_reducible refine (spec_l01Between.calls (rd l1 x5_1) 0 (wrap64 ((l0_4.length : Int) - 1)) true _ A6.out).mono ?_); rintro e w' ⟨rfl, ⟨nd, rfl⟩⟩; (try exact zD)))
       repeat (go_quiet (first | (go_at_call 16; (first | (with_reducible refine (spec_l01Between.calls (rd l1 x5_1) 0 (wrap64 ((l0_4.length : Int) - 1)) true _ A6.out).mono ?_) | ((simp only [i64_w]); (with_reducible refine (spec_l01Between.calls (rd l1 x5_1) 0 (wrap64 ((l0_4.length : Int) - 1)) true _ A6.out).mono ?_)) | (refine (spec_l01Between.calls (rd l1 x5_1) 0 (wrap64 ((l0_4.length : Int) - 1)) true _ A6.out).mono ?_)); rintro e w' ⟨rfl, ⟨nd, rfl⟩⟩; (try exact zD))); try go_wp2_with (first | (go_at_call 16; (first | (with_reducible refine (spec_l01Between.calls (rd l1 x5_1) 0 (wrap64 ((l0_4.length : Int) - 1)) true _ A6.out).mono ?_) | ((simp only [i64_w]); (with_reducible refine (spec_l01Between.calls (rd l1 x5_1) 0 (wrap64 ((l0_4.length : Int) - 1)) true _ A6.out).mono ?_)) | (refine (spec_l01Between.calls (rd l1 x5_1) 0 (wrap64 ((l0_4.length : Int) - 1)) true _ A6.out).mono ?_)); rintro e w' ⟨rfl, ⟨nd, rfl⟩⟩; (try exact zD))))
       go_roundg k1
       case measure => have := HK1.out; omega
       case rel => exact ⟨(wrap64 (x5_1 + 1)), zS, H', ⟨by have := HK1.out; omega⟩, ⟨zK BK242⟩, ⟨zH⟩⟩
     ·replace c7 := Bool.eq_false_iff.mpr c7
      subst c7
      replace H := iF H
      obtain rfl := Option.some.inj H
      have p243 : 0 ≤ (x5_1 : Int) := zA
      have q243 : x5_1 < (l1.length : Int) := zA
      obtain ⟨ad243, e243, hx243_0⟩ := Kd.at_int HR1.out x5_1 p243 q243
      cases e243
      replace hx243_0 := hX HB hx243_0
      replace p243 := eq_true p243
      replace q243 := eq_true q243
      obtain ⟨hcz16_0, hcz16_1, hcz16_2, hcz16_3, hcz16_4⟩ := kk5 BK242
      go_wp2_with (first | (go_at_call 16; (with_reducible refine (spec_l01Between.calls (rd l1 x5_1) 0 (wrap64 ((l0_4.length : Int) - 1)) false _ A6.out).mono ?_); rintro e w' ⟨rfl, ⟨nd, rfl⟩⟩; (try exact zD)))
      repeat (go_quiet (first | (go_at_call 16; (first | (with_reducible refine (spec_l01Between.calls (rd l1 x5_1) 0 (wrap64 ((l0_4.length : Int) - 1)) false _ A6.out).mono ?_) | ((simp only [i64_w]); (with_reducible refine (spec_l01Between.calls (rd l1 x5_1) 0 (wrap64 ((l0_4.length : Int) - 1)) false _ A6.out).mono ?_)) | (refine (spec_l01Between.calls (rd l1 x5_1) 0 (wrap64 ((l0_4.length : Int) - 1)) false _ A6.out).mono ?_)); rintro e w' ⟨rfl, ⟨nd, rfl⟩⟩; (try exact zD))); try go_wp2_with (first | (go_at_call 16; (first | (with_reducible refine (spec_l01Between.calls (rd l1 x5_1) 0 (wrap64 ((l0_4.length : Int) - 1)) false _ A6.out).mono ?_) | ((simp only [i64_w]); (with_reducible refine (spec_l01Between.calls (rd l1 x5_1) 0 (wrap64 ((l0_4.length : Int) - 1)) false _ A6.out).mono ?_)) | (refine (spec_l01Between.calls (rd l1 x5_1) 0 (wrap64 ((l0_4.length : Int) - 1)) false _ A6.out).mono ?_)); rintro e w' ⟨rfl, ⟨nd, rfl⟩⟩; (try exact zD))))
      go_ret
      exact ⟨zR, zH⟩
    ·rw [if_neg c5] at H
     exact absurd H (by simp)
   ·rw [if_neg c4] at H
    have c4b0 : decide (x5_1 < (l1.length : Int)) = false := decide_eq_false c4
    clear c4
    obtain rfl := Option.some.inj H
    go_wp2
    repeat (go_quiet (fail); try go_wp2)
    go_ret
    exact ⟨zR, zH⟩

/-- Numbers of components, rising: from the i-th on (d of them). -/
def compsB (l : List Int) (n : Int) : Nat → Nat → Bool
  | 0, _ => decide ((l.length : Int) > 0)
  | d + 1, i => inR (rd l (i : Int)) 0 (wrap64 (n - 1)) && ((decide (i = 0) || decide (rd l ((i : Int) - 1) < rd l (i : Int))) && compsB l n d (i + 1))
theorem sComps_l0 (p w h r : Int) (l : List S74) (c : List Int) (hc : c.length ≤ 1048576) : ∀ (d i : Nat), i + d = c.length → Ev (fun k => spec_l04Comps.l0 k c i p w h r l) (compsB c (l.length : Int) d i) := by
  intro d
  induction d with
  | zero =>
    intro i hi
    refine Ev.step (fun k => by rw [spec_l04Comps.l0]) (evNeg (by omega) ?_)
    exact Ev.now _
  | succ d ih =>
    intro i hi
    refine Ev.step (fun k => by rw [spec_l04Comps.l0]) (evPos (by omega) (evPos (by omega) ?_))
    rw [compsB]
    refine evBind (evConst (between_f _ _ _)) (evIf (fun h1 => ?_) (fun h1 => by rw [Bool.eq_false_iff.2 h1]; exact Ev.now _))
    have hn := ih (i + 1) (by omega)
    rw [h1, w64 (x := (i : Int) - 1) (by omega) (by omega), w64 (x := (i : Int) + 1) (by omega) (by omega), Bool.true_and]
    refine evIf (fun h2 => evPos (by omega) (evPos (by omega) (evIf (fun h3 => ?_) (fun h3 => ?_)))) (fun h2 => ?_)
    · rw [decide_eq_false (show ¬ i = 0 by omega), decide_eq_false (show ¬ rd c ((i : Int) - 1) < rd c (i : Int) by omega)]
      exact Ev.now _
    · rw [decide_eq_false (show ¬ i = 0 by omega), decide_eq_true (show rd c ((i : Int) - 1) < rd c (i : Int) by omega)]
      simpa using hn
    · rw [decide_eq_true (show i = 0 by omega)]
      simpa using hn
theorem sComps_f (p w h r : Int) (l : List S74) (c : List Int) (hc : c.length ≤ 1048576) : Ev (fun k => spec_l04Comps.f k p w h r l c) (compsB c (l.length : Int) c.length 0) := sComps_l0 p w h r l c hc c.length 0 (by omega)

/-! ### spec_l12Bits: function 80 -/
def spec_l12Bits.f (l0_0 : List Int) (a0_1 : Int) (a0_2 : Int) (a0_3 : Int) (a0_4 : Int) : Option (Bool) := (spec_l01Between.f a0_1 0 a0_2).bind fun t248 => (if t248 = true then (if a0_2 ≤ 63 then ((spec_l01Between.f a0_4 0 13).bind fun t249 => (if t249 = true then (if a0_3 = 0 then (some true) else (some (a0_3 == (wrap64 (a0_4 + 1))))) else (some false))) else (some false)) else (some false))
set_option maxHeartbeats 8000000 in
set_option maxRecDepth 100000 in
theorem spec_l12Bits.calls (A0_0 : Option Addr) (c0_0 : Nat) (l0_0 : List Int) (a0_1 : Int) (a0_2 : Int) (a0_3 : Int) (a0_4 : Int) (r : Bool) (w : World) (hr0_0 : Kd.C (Kd.int .i64) w A0_0 l0_0.length l0_0) (hc0_0 : l0_0.length ≤ c0_0) (h : spec_l12Bits.f l0_0 a0_1 a0_2 a0_3 a0_4 = some r) :
  Calls Try.prog 80 #[.agg #[.slice A0_0 l0_0.length c0_0, .int .i64 a0_1, .int .i64 a0_2, .int .i64 a0_3, .int .i64 a0_4]] w fun e w' => e = .returned (.bool r) ∧ Below w.heap.size w w' := by
 have hu86 := Try.underlying86
 have HR0_0 := aM hr0_0
 have HC0_0 := aM hc0_0
 clear hr0_0 hc0_0
 have HB := aM (Below.refl w.heap.size w)
 have H : ((spec_l01Between.f a0_1 0 a0_2).bind fun t248 => (if t248 = true then (if a0_2 ≤ 63 then ((spec_l01Between.f a0_4 0 13).bind fun t249 => (if t249 = true then (if a0_3 = 0 then (some true) else (some (a0_3 == (wrap64 (a0_4 + 1))))) else (some false))) else (some false)) else (some false))) = some r := h
 clear h
 obtain ⟨t248, A2, H⟩ := oH H
 by_cases c3 : t248 = true
 ·subst c3
  replace H := iT H
  by_cases c4 : a0_2 ≤ 63
  ·rw [if_pos c4] at H
   have c4b0 : decide (a0_2 ≤ 63) = true := decide_eq_true c4
   clear c4
   obtain ⟨t249, A5, H⟩ := oH H
   by_cases c6 : t249 = true
   ·subst c6
    replace H := iT H
    by_cases c7 : a0_3 = 0
    ·rw [if_pos c7] at H
     have c7b0 : (a0_3 == 0) = true := beq_iff_eq.mpr c7
     have c7b1 : (a0_3 != 0) = false := bne_eq_false_iff_eq.mpr c7
     clear c7
     obtain rfl := Option.some.inj H
     go_enter Try.func80, Try.ntmps80
     go_wp2_with (first | ((with_reducible refine gate_dst (N := 1) rfl ?_); refine box_event ?hg (N := 1) ?hd (cs := #[.slice A0_0 l0_0.length c0_0, .int .i64 a0_1, .int .i64 a0_2, .int .i64 a0_3, .int .i64 a0_4]) (t := 86) ?hr ?_; (case hd => rfl); (case hg => rfl); (case hr => first | (go_simp; done) | (go_simp; rfl)); intro gb247 hg w8 hbox hb; have BK247 := aM hbox; have GW247 := aM (zG hg : w.heap.size ≤ gb247); have GE247 := aM (zG hg : w.heap.size ≤ gb247); replace HB := cH HB hb; clear hb hbox hg; obtain ⟨hcz9_0, hcz9_1, hcz9_2, hcz9_3, hcz9_4⟩ := kk5 BK247; obtain ⟨hfz9_0, hfz9_1, hfz9_2, hfz9_3, hfz9_4⟩ := kg5 BK247) | ((with_reducible refine gate_callee (f := 16) rfl ?_); refine zGl (some 7) Try.func16 #[.int .i64 a0_1, .int .i64 0, .int .i64 a0_2] ?_; (with_reducible refine (spec_l01Between.calls a0_1 0 a0_2 true _ A2.out).mono ?_); rintro e w' ⟨rfl, ⟨nd, rfl⟩⟩; refine ⟨_, rfl, ?_⟩) | (go_at_call 16; (with_reducible refine (spec_l01Between.calls a0_4 0 13 true _ A5.out).mono ?_); rintro e w' ⟨rfl, ⟨nd, rfl⟩⟩))
     go_ret
     exact ⟨zR, zH⟩
    ·rw [if_neg c7] at H
     have c7b0 : (a0_3 == 0) = false := beq_eq_false_iff_ne.mpr c7
     have c7b1 : (a0_3 != 0) = true := bne_iff_ne.mpr c7
     obtain rfl := Option.some.inj H
     go_enter Try.func80, Try.ntmps80
     go_wp2_with (first | ((with_reducible refine gate_dst (N := 1) rfl ?_); refine box_event ?hg (N := 1) ?hd (cs := #[.slice A0_0 l0_0.length c0_0, .int .i64 a0_1, .int .i64 a0_2, .int .i64 a0_3, .int .i64 a0_4]) (t := 86) ?hr ?_; (case hd => rfl); (case hg => rfl); (case hr => first | (go_simp; done) | (go_simp; rfl)); intro gb247 hg w10 hbox hb; have BK247 := aM hbox; have GW247 := aM (zG hg : w.heap.size ≤ gb247); have GE247 := aM (zG hg : w.heap.size ≤ gb247); replace HB := cH HB hb; clear hb hbox hg; obtain ⟨hcz11_0, hcz11_1, hcz11_2, hcz11_3, hcz11_4⟩ := kk5 BK247; obtain ⟨hfz11_0, hfz11_1, hfz11_2, hfz11_3, hfz11_4⟩ := kg5 BK247) | ((with_reducible refine gate_callee (f := 16) rfl ?_); refine zGl (some 7) Try.func16 #[.int .i64 a0_1, .int .i64 0, .int .i64 a0_2] ?_; (with_reducible refine (spec_l01Between.calls a0_1 0 a0_2 true _ A2.out).mono ?_); rintro e w' ⟨rfl, ⟨nd, rfl⟩⟩; refine ⟨_, rfl, ?_⟩) | (go_at_call 16; (with_reducible refine (spec_l01Between.calls a0_4 0 13 true _ A5.out).mono ?_); rintro e w' ⟨rfl, ⟨nd, rfl⟩⟩))
     go_ret
     exact ⟨zR, zH⟩
   ·replace c6 := Bool.eq_false_iff.mpr c6
    subst c6
    replace H := iF H
    obtain rfl := Option.some.inj H
    go_enter Try.func80, Try.ntmps80
    go_wp2_with (first | ((with_reducible refine gate_dst (N := 1) rfl ?_); refine box_event ?hg (N := 1) ?hd (cs := #[.slice A0_0 l0_0.length c0_0, .int .i64 a0_1, .int .i64 a0_2, .int .i64 a0_3, .int .i64 a0_4]) (t := 86) ?hr ?_; (case hd => rfl); (case hg => rfl); (case hr => first | (go_simp; done) | (go_simp; rfl)); intro gb247 hg w12 hbox hb; have BK247 := aM hbox; have GW247 := aM (zG hg : w.heap.size ≤ gb247); have GE247 := aM (zG hg : w.heap.size ≤ gb247); replace HB := cH HB hb; clear hb hbox hg; obtain ⟨hcz13_0, hcz13_1, hcz13_2, hcz13_3, hcz13_4⟩ := kk5 BK247; obtain ⟨hfz13_0, hfz13_1, hfz13_2, hfz13_3, hfz13_4⟩ := kg5 BK247) | ((with_reducible refine gate_callee (f := 16) rfl ?_); refine zGl (some 7) Try.func16 #[.int .i64 a0_1, .int .i64 0, .int .i64 a0_2] ?_; (with_reducible refine (spec_l01Between.calls a0_1 0 a0_2 true _ A2.out).mono ?_); rintro e w' ⟨rfl, ⟨nd, rfl⟩⟩; refine ⟨_, rfl, ?_⟩) | (go_at_call 16; (with_reducible refine (spec_l01Between.calls a0_4 0 13 false _ A5.out).mono ?_); rintro e w' ⟨rfl, ⟨nd, rfl⟩⟩))
    go_ret
    exact ⟨zR, zH⟩
  ·rw [if_neg c4] at H
   have c4b0 : decide (a0_2 ≤ 63) = false := decide_eq_false c4
   clear c4
   obtain rfl := Option.some.inj H
   go_enter Try.func80, Try.ntmps80
   go_wp2_with (first | ((with_reducible refine gate_dst (N := 1) rfl ?_); refine box_event ?hg (N := 1) ?hd (cs := #[.slice A0_0 l0_0.length c0_0, .int .i64 a0_1, .int .i64 a0_2, .int .i64 a0_3, .int .i64 a0_4]) (t := 86) ?hr ?_; (case hd => rfl); (case hg => rfl); (case hr => first | (go_simp; done) | (go_simp; rfl)); intro gb247 hg w14 hbox hb; have BK247 := aM hbox; have GW247 := aM (zG hg : w.heap.size ≤ gb247); have GE247 := aM (zG hg : w.heap.size ≤ gb247); replace HB := cH HB hb; clear hb hbox hg; obtain ⟨hcz15_0, hcz15_1, hcz15_2, hcz15_3, hcz15_4⟩ := kk5 BK247; obtain ⟨hfz15_0, hfz15_1, hfz15_2, hfz15_3, hfz15_4⟩ := kg5 BK247) | ((with_reducible refine gate_callee (f := 16) rfl ?_); refine zGl (some 7) Try.func16 #[.int .i64 a0_1, .int .i64 0, .int .i64 a0_2] ?_; (with_reducible refine (spec_l01Between.calls a0_1 0 a0_2 true _ A2.out).mono ?_); rintro e w' ⟨rfl, ⟨nd, rfl⟩⟩; refine ⟨_, rfl, ?_⟩))
   go_ret
   exact ⟨zR, zH⟩
 ·replace c3 := Bool.eq_false_iff.mpr c3
  subst c3
  replace H := iF H
  obtain rfl := Option.some.inj H
  go_enter Try.func80, Try.ntmps80
  go_wp2_with (first | ((with_reducible refine gate_dst (N := 1) rfl ?_); refine box_event ?hg (N := 1) ?hd (cs := #[.slice A0_0 l0_0.length c0_0, .int .i64 a0_1, .int .i64 a0_2, .int .i64 a0_3, .int .i64 a0_4]) (t := 86) ?hr ?_; (case hd => rfl); (case hg => rfl); (case hr => first | (go_simp; done) | (go_simp; rfl)); intro gb247 hg w16 hbox hb; have BK247 := aM hbox; have GW247 := aM (zG hg : w.heap.size ≤ gb247); have GE247 := aM (zG hg : w.heap.size ≤ gb247); replace HB := cH HB hb; clear hb hbox hg; obtain ⟨hcz17_0, hcz17_1, hcz17_2, hcz17_3, hcz17_4⟩ := kk5 BK247; obtain ⟨hfz17_0, hfz17_1, hfz17_2, hfz17_3, hfz17_4⟩ := kg5 BK247) | ((with_reducible refine gate_callee (f := 16) rfl ?_); refine zGl (some 7) Try.func16 #[.int .i64 a0_1, .int .i64 0, .int .i64 a0_2] ?_; (with_reducible refine (spec_l01Between.calls a0_1 0 a0_2 false _ A2.out).mono ?_); rintro e w' ⟨rfl, ⟨nd, rfl⟩⟩; refine ⟨_, rfl, ?_⟩))
  go_ret
  exact ⟨zR, zH⟩

/-- From, To, High and Low of a scan are as they have to be. -/
def passB (f t h l : Int) : Bool := inR f 0 t && (decide (t ≤ 63) && (inR l 0 13 && (h == 0 || h == wrap64 (l + 1))))
theorem pass_bounds {f t h l : Int} (hb : passB f t h l = true) : 0 ≤ f ∧ f ≤ t ∧ t ≤ 63 ∧ 0 ≤ l ∧ l ≤ 13 ∧ (h = 0 ∨ h = l + 1) := by
  simp only [passB, Bool.and_eq_true, inR_iff, decide_eq_true_eq, Bool.or_eq_true, beq_iff_eq] at hb
  obtain ⟨⟨h1, h2⟩, h3, ⟨h4, h5⟩, h6⟩ := hb
  rw [w64 (by omega) (by omega)] at h6
  exact ⟨h1, h2, h3, h4, h5, h6⟩
theorem l12_f (c : List Int) (f t h l : Int) : spec_l12Bits.f c f t h l = some (passB f t h l) := by
  simp only [spec_l12Bits.f, between_f, Option.bind_some, passB]
  cases inR f 0 t <;> cases inR l 0 13 <;> by_cases h1 : t ≤ 63 <;> by_cases h2 : h = 0 <;> simp [h1, h2]

/-! ### spec_ScanOk: function 63 -/
def spec_ScanOk.f (k : Nat) (a0_0 : Int) (a0_1 : Int) (a0_2 : Int) (a0_3 : Int) (l0_4 : List (S74)) (l1_0 : List Int) (a1_1 : Int) (a1_2 : Int) (a1_3 : Int) (a1_4 : Int) : Option (Bool) := (spec_FrameOk.f k a0_0 a0_1 a0_2 a0_3 l0_4).bind fun t252 => (if t252 = true then ((spec_l04Comps.f k a0_0 a0_1 a0_2 a0_3 l0_4 l1_0).bind fun t253 => (if t253 = true then ((spec_l12Bits.f l1_0 a1_1 a1_2 a1_3 a1_4).bind fun t254 => (some t254)) else (some false))) else (some false))
theorem spec_ScanOk.mono : ∀ a0 a1 a2 a3 a4 a5 a6 a7 a8 a9 k, LeO (spec_ScanOk.f k a0 a1 a2 a3 a4 a5 a6 a7 a8 a9) (spec_ScanOk.f (k + 1) a0 a1 a2 a3 a4 a5 a6 a7 a8 a9) := by
 intro a0 a1 a2 a3 a4 a5 a6 a7 a8 a9 k
 unfold spec_ScanOk.f
 repeat' first
   | (with_reducible exact spec_FrameOk.mono _ _ _ _ _ _)
   | (with_reducible exact spec_l04Comps.mono _ _ _ _ _ _ _)
   | (with_reducible exact LeO.refl _)
   | (with_reducible exact LeO.none _)
   | (with_reducible refine LeO.ite ?_ ?_)
   | (with_reducible refine LeO.bind ?_ (fun _ => ?_))
   | exact spec_FrameOk.mono _ _ _ _ _ _
   | exact spec_l04Comps.mono _ _ _ _ _ _ _
   | exact LeO.none _
   | refine LeO.ite ?_ ?_
   | refine LeO.bind ?_ (fun _ => ?_)
set_option maxHeartbeats 8000000 in
set_option maxRecDepth 100000 in
theorem spec_ScanOk.calls (k : Nat) (a0_0 : Int) (a0_1 : Int) (a0_2 : Int) (a0_3 : Int) (A0_4 : Option Addr) (c0_4 : Nat) (l0_4 : List (S74)) (A1_0 : Option Addr) (c1_0 : Nat) (l1_0 : List Int) (a1_1 : Int) (a1_2 : Int) (a1_3 : Int) (a1_4 : Int) (r : Bool) (w : World) (hr0_4 : Kd.C k74 w A0_4 l0_4.length l0_4) (hc0_4 : l0_4.length ≤ c0_4) (hr1_0 : Kd.C (Kd.int .i64) w A1_0 l1_0.length l1_0) (hc1_0 : l1_0.length ≤ c1_0) (h : spec_ScanOk.f k a0_0 a0_1 a0_2 a0_3 l0_4 l1_0 a1_1 a1_2 a1_3 a1_4 = some r) :
  Calls Try.prog 63 #[.agg #[.int .i64 a0_0, .int .i64 a0_1, .int .i64 a0_2, .int .i64 a0_3, .slice A0_4 l0_4.length c0_4], .agg #[.slice A1_0 l1_0.length c1_0, .int .i64 a1_1, .int .i64 a1_2, .int .i64 a1_3, .int .i64 a1_4]] w fun e w' => e = .returned (.bool r) ∧ Below w.heap.size w w' := by
 have hu37 := Try.underlying37
 have hu86 := Try.underlying86
 have HR0_4 := aM hr0_4
 have HC0_4 := aM hc0_4
 clear hr0_4 hc0_4
 have HR1_0 := aM hr1_0
 have HC1_0 := aM hc1_0
 clear hr1_0 hc1_0
 have HB := aM (Below.refl w.heap.size w)
 have H : ((spec_FrameOk.f k a0_0 a0_1 a0_2 a0_3 l0_4).bind fun t252 => (if t252 = true then ((spec_l04Comps.f k a0_0 a0_1 a0_2 a0_3 l0_4 l1_0).bind fun t253 => (if t253 = true then ((spec_l12Bits.f l1_0 a1_1 a1_2 a1_3 a1_4).bind fun t254 => (some t254)) else (some false))) else (some false))) = some r := h
 clear h
 obtain ⟨t252, A3, H⟩ := oH H
 by_cases c4 : t252 = true
 ·subst c4
  replace H := iT H
  obtain ⟨t253, A5, H⟩ := oH H
  by_cases c6 : t253 = true
  ·subst c6
   replace H := iT H
   obtain ⟨t254, A7, H⟩ := oH H
   obtain rfl := Option.some.inj H
   go_enter Try.func63, Try.ntmps63
   go_wp2_with (first | ((with_reducible refine gate_dst (N := 2) rfl ?_); refine box_event ?hg (N := 2) ?hd (cs := #[.int .i64 a0_0, .int .i64 a0_1, .int .i64 a0_2, .int .i64 a0_3, .slice A0_4 l0_4.length c0_4]) (t := 37) ?hr ?_; (case hd => rfl); (case hg => rfl); (case hr => first | (go_simp; done) | (go_simp; rfl)); intro gb250 hg w8 hbox hb; have BK250 := aM hbox; have GW250 := aM (zG hg : w.heap.size ≤ gb250); have GE250 := aM (zG hg : w.heap.size ≤ gb250); replace HB := cH HB hb; clear hb hbox hg) | ((with_reducible refine gate_dst (N := 3) rfl ?_); refine box_event ?hg (N := 3) ?hd (cs := #[.slice A1_0 l1_0.length c1_0, .int .i64 a1_1, .int .i64 a1_2, .int .i64 a1_3, .int .i64 a1_4]) (t := 86) ?hr ?_; (case hd => rfl); (case hg => rfl); (case hr => first | (go_simp; done) | (go_simp; rfl)); intro gb251 hg w9 hbox hb; have BK251 := aM hbox; have GW251 := aM (zG hg : w.heap.size ≤ gb251); have GE251 := aM (zG hg : w.heap.size ≤ gb251); replace HB := cH HB hb; have NB250_251 := aM ((zL hg BK250)); have NB251_250 := aM ((zM hg BK250)); replace BK250 := cB BK250 hb; clear hb hbox hg; have hnb10 := NB250_251.out; have hnc10 := NB251_250.out; obtain ⟨hcz11_0, hcz11_1, hcz11_2, hcz11_3, hcz11_4⟩ := kk5 BK250; obtain ⟨hfz11_0, hfz11_1, hfz11_2, hfz11_3, hfz11_4⟩ := kg5 BK250) | (go_at_call 14; (with_reducible refine (spec_FrameOk.calls k a0_0 a0_1 a0_2 a0_3 _ _ l0_4 true _ ?side1 ?side2 A3.out).mono ?_); (case side1 => exact zC (Kd.C_below HR0_4.out HB.out)); (case side2 => exact HC0_4.out); rintro e w12 ⟨rfl, hb⟩; replace BK250 := cB BK250 hb; replace BK251 := cB BK251 hb; replace HB := cH HB hb; (try clear hb); obtain ⟨hcz13_0, hcz13_1, hcz13_2, hcz13_3, hcz13_4⟩ := kk5 BK250; obtain ⟨hfz13_0, hfz13_1, hfz13_2, hfz13_3, hfz13_4⟩ := kg5 BK250; obtain ⟨hcz14_0, hcz14_1, hcz14_2, hcz14_3, hcz14_4⟩ := kk5 BK251; obtain ⟨hfz14_0, hfz14_1, hfz14_2, hfz14_3, hfz14_4⟩ := kg5 BK251) | (go_at_call 79; (with_reducible refine (spec_l04Comps.calls k a0_0 a0_1 a0_2 a0_3 _ _ l0_4 _ _ l1_0 true _ ?side1 ?side2 ?side3 ?side4 A5.out).mono ?_); (case side1 => exact zC (Kd.C_below HR0_4.out HB.out)); (case side2 => exact HC0_4.out); (case side3 => exact zC (Kd.C_below HR1_0.out HB.out)); (case side4 => exact HC1_0.out); rintro e w15 ⟨rfl, hb⟩; replace BK250 := cB BK250 hb; replace BK251 := cB BK251 hb; replace HB := cH HB hb; (try clear hb); obtain ⟨hcz16_0, hcz16_1, hcz16_2, hcz16_3, hcz16_4⟩ := kk5 BK251; obtain ⟨hfz16_0, hfz16_1, hfz16_2, hfz16_3, hfz16_4⟩ := kg5 BK251) | (go_at_call 80; (with_reducible refine (spec_l12Bits.calls _ _ l1_0 a1_1 a1_2 a1_3 a1_4 t254 _ ?side1 ?side2 A7.out).mono ?_); (case side1 => exact zC (Kd.C_below HR1_0.out HB.out)); (case side2 => exact HC1_0.out); rintro e w17 ⟨rfl, hb⟩; replace BK250 := cB BK250 hb; replace BK251 := cB BK251 hb; replace HB := cH HB hb; (try clear hb)))
   go_ret
   exact ⟨zR, zH⟩
  ·replace c6 := Bool.eq_false_iff.mpr c6
   subst c6
   replace H := iF H
   obtain rfl := Option.some.inj H
   go_enter Try.func63, Try.ntmps63
   go_wp2_with (first | ((with_reducible refine gate_dst (N := 2) rfl ?_); refine box_event ?hg (N := 2) ?hd (cs := #[.int .i64 a0_0, .int .i64 a0_1, .int .i64 a0_2, .int .i64 a0_3, .slice A0_4 l0_4.length c0_4]) (t := 37) ?hr ?_; (case hd => rfl); (case hg => rfl); (case hr => first | (go_simp; done) | (go_simp; rfl)); intro gb250 hg w18 hbox hb; have BK250 := aM hbox; have GW250 := aM (zG hg : w.heap.size ≤ gb250); have GE250 := aM (zG hg : w.heap.size ≤ gb250); replace HB := cH HB hb; clear hb hbox hg) | ((with_reducible refine gate_dst (N := 3) rfl ?_); refine box_event ?hg (N := 3) ?hd (cs := #[.slice A1_0 l1_0.length c1_0, .int .i64 a1_1, .int .i64 a1_2, .int .i64 a1_3, .int .i64 a1_4]) (t := 86) ?hr ?_; (case hd => rfl); (case hg => rfl); (case hr => first | (go_simp; done) | (go_simp; rfl)); intro gb251 hg w19 hbox hb; have BK251 := aM hbox; have GW251 := aM (zG hg : w.heap.size ≤ gb251); have GE251 := aM (zG hg : w.heap.size ≤ gb251); replace HB := cH HB hb; have NB250_251 := aM ((zL hg BK250)); have NB251_250 := aM ((zM hg BK250)); replace BK250 := cB BK250 hb; clear hb hbox hg; have hnb20 := NB250_251.out; have hnc20 := NB251_250.out; obtain ⟨hcz21_0, hcz21_1, hcz21_2, hcz21_3, hcz21_4⟩ := kk5 BK250; obtain ⟨hfz21_0, hfz21_1, hfz21_2, hfz21_3, hfz21_4⟩ := kg5 BK250) | (go_at_call 14; (with_reducible refine (spec_FrameOk.calls k a0_0 a0_1 a0_2 a0_3 _ _ l0_4 true _ ?side1 ?side2 A3.out).mono ?_); (case side1 => exact zC (Kd.C_below HR0_4.out HB.out)); (case side2 => exact HC0_4.out); rintro e w22 ⟨rfl, hb⟩; replace BK250 := cB BK250 hb; replace BK251 := cB BK251 hb; replace HB := cH HB hb; (try clear hb); obtain ⟨hcz23_0, hcz23_1, hcz23_2, hcz23_3, hcz23_4⟩ := kk5 BK250; obtain ⟨hfz23_0, hfz23_1, hfz23_2, hfz23_3, hfz23_4⟩ := kg5 BK250; obtain ⟨hcz24_0, hcz24_1, hcz24_2, hcz24_3, hcz24_4⟩ := kk5 BK251; obtain ⟨hfz24_0, hfz24_1, hfz24_2, hfz24_3, hfz24_4⟩ := kg5 BK251) | (go_at_call 79; (with_reducible refine (spec_l04Comps.calls k a0_0 a0_1 a0_2 a0_3 _ _ l0_4 _ _ l1_0 false _ ?side1 ?side2 ?side3 ?side4 A5.out).mono ?_); (case side1 => exact zC (Kd.C_below HR0_4.out HB.out)); (case side2 => exact HC0_4.out); (case side3 => exact zC (Kd.C_below HR1_0.out HB.out)); (case side4 => exact HC1_0.out); rintro e w25 ⟨rfl, hb⟩; replace BK250 := cB BK250 hb; replace BK251 := cB BK251 hb; replace HB := cH HB hb; (try clear hb)))
   go_ret
   exact ⟨zR, zH⟩
 ·replace c4 := Bool.eq_false_iff.mpr c4
  subst c4
  replace H := iF H
  obtain rfl := Option.some.inj H
  go_enter Try.func63, Try.ntmps63
  go_wp2_with (first | ((with_reducible refine gate_dst (N := 2) rfl ?_); refine box_event ?hg (N := 2) ?hd (cs := #[.int .i64 a0_0, .int .i64 a0_1, .int .i64 a0_2, .int .i64 a0_3, .slice A0_4 l0_4.length c0_4]) (t := 37) ?hr ?_; (case hd => rfl); (case hg => rfl); (case hr => first | (go_simp; done) | (go_simp; rfl)); intro gb250 hg w26 hbox hb; have BK250 := aM hbox; have GW250 := aM (zG hg : w.heap.size ≤ gb250); have GE250 := aM (zG hg : w.heap.size ≤ gb250); replace HB := cH HB hb; clear hb hbox hg) | ((with_reducible refine gate_dst (N := 3) rfl ?_); refine box_event ?hg (N := 3) ?hd (cs := #[.slice A1_0 l1_0.length c1_0, .int .i64 a1_1, .int .i64 a1_2, .int .i64 a1_3, .int .i64 a1_4]) (t := 86) ?hr ?_; (case hd => rfl); (case hg => rfl); (case hr => first | (go_simp; done) | (go_simp; rfl)); intro gb251 hg w27 hbox hb; have BK251 := aM hbox; have GW251 := aM (zG hg : w.heap.size ≤ gb251); have GE251 := aM (zG hg : w.heap.size ≤ gb251); replace HB := cH HB hb; have NB250_251 := aM ((zL hg BK250)); have NB251_250 := aM ((zM hg BK250)); replace BK250 := cB BK250 hb; clear hb hbox hg; have hnb28 := NB250_251.out; have hnc28 := NB251_250.out; obtain ⟨hcz29_0, hcz29_1, hcz29_2, hcz29_3, hcz29_4⟩ := kk5 BK250; obtain ⟨hfz29_0, hfz29_1, hfz29_2, hfz29_3, hfz29_4⟩ := kg5 BK250) | (go_at_call 14; (with_reducible refine (spec_FrameOk.calls k a0_0 a0_1 a0_2 a0_3 _ _ l0_4 false _ ?side1 ?side2 A3.out).mono ?_); (case side1 => exact zC (Kd.C_below HR0_4.out HB.out)); (case side2 => exact HC0_4.out); rintro e w30 ⟨rfl, hb⟩; replace BK250 := cB BK250 hb; replace BK251 := cB BK251 hb; replace HB := cH HB hb; (try clear hb)))
  go_ret
  exact ⟨zR, zH⟩

def scanB (p w h r : Int) (l : List S74) (c : List Int) (f t hi lo : Int) : Bool := frameB p w h r l && (compsB c (l.length : Int) c.length 0 && passB f t hi lo)
theorem sScanOk_f (p w h r : Int) (l : List S74) (hl : l.length ≤ 1048576) (c : List Int) (hc : c.length ≤ 1048576) (f t hi lo : Int) : Ev (fun k => spec_ScanOk.f k p w h r l c f t hi lo) (scanB p w h r l c f t hi lo) := by
  unfold spec_ScanOk.f scanB
  refine evBind (sFrameOk_f p w h r l hl) (evIf (fun hb => ?_) (fun hb => by rw [Bool.eq_false_iff.2 hb]; exact Ev.now _))
  rw [hb, Bool.true_and]
  refine evBind (sComps_f p w h r l c hc) (evIf (fun h1 => ?_) (fun h1 => by rw [Bool.eq_false_iff.2 h1]; exact Ev.now _))
  rw [h1, Bool.true_and]
  exact evBind (evConst (l12_f c f t hi lo)) (Ev.now _)

end Go.Proofs.Ytpcfjobojdldnaa.CV
