/- Functions that a law of this seat reaches: written by a program of this session (wip/xprint.py), and by hand. -/
import Derived.Test.YtpcfjobojdldnaaYMac
import Derived.Test.YtpcfjobojdldnaaYCVx0
import Derived.Test.YtpcfjobojdldnaaYCVx6
namespace Go.Proofs.Ytpcfjobojdldnaa.CV
open Go.RowKit Go.Proofs.Ytpcfjobojdldnaa.B Go.Proofs.YtpcfjobojdldnaaW.PrintWords Go.Proofs.YtpcfjobojdldnaaW.PrintLast Go.Proofs.YtpcfjobojdldnaaW.PrintMore
attribute [local go_sem] max2_int min2_int max_two min_two max_three min_three max_four min_four   -- for this text's walks alone
set_option linter.unusedVariables false
set_option linter.unusedSimpArgs false

/-! ### spec_l11Need: function 62 -/
def spec_l11Need.f (k : Nat) (a0_0 : Int) (a0_1 : Int) (a0_2 : Int) (a0_3 : Int) (l0_4 : List (S74)) (a1 : Int) : Option (Int × Int) := (spec_l04Size.f k a0_0 a0_1 a0_2 a0_3 l0_4 a1).bind fun bt222 => ((spec_l04Up.f bt222.1 8).bind fun t224 => ((spec_l04Up.f bt222.2 8).bind fun t225 => (some (t224, t225))))
theorem spec_l11Need.mono : ∀ a0 a1 a2 a3 a4 a5 k, LeO (spec_l11Need.f k a0 a1 a2 a3 a4 a5) (spec_l11Need.f (k + 1) a0 a1 a2 a3 a4 a5) := by
 intro a0 a1 a2 a3 a4 a5 k
 unfold spec_l11Need.f
 repeat' first
   | (with_reducible exact spec_l04Size.mono _ _ _ _ _ _ _)
   | (with_reducible exact LeO.refl _)
   | (with_reducible exact LeO.none _)
   | (with_reducible refine LeO.ite ?_ ?_)
   | (with_reducible refine LeO.bind ?_ (fun _ => ?_))
   | exact spec_l04Size.mono _ _ _ _ _ _ _
   | exact LeO.none _
   | refine LeO.ite ?_ ?_
   | refine LeO.bind ?_ (fun _ => ?_)
set_option maxHeartbeats 8000000 in
set_option maxRecDepth 100000 in
theorem spec_l11Need.calls (k : Nat) (a0_0 : Int) (a0_1 : Int) (a0_2 : Int) (a0_3 : Int) (A0_4 : Option Addr) (c0_4 : Nat) (l0_4 : List (S74)) (a1 : Int) (r1 : Int) (r2 : Int) (w : World) (hr0_4 : Kd.C k74 w A0_4 l0_4.length l0_4) (hc0_4 : l0_4.length ≤ c0_4) (h : spec_l11Need.f k a0_0 a0_1 a0_2 a0_3 l0_4 a1 = some (r1, r2)) :
  Calls Try.prog 62 #[.agg #[.int .i64 a0_0, .int .i64 a0_1, .int .i64 a0_2, .int .i64 a0_3, .slice A0_4 l0_4.length c0_4], .int .i64 a1] w fun e w' => e = .returned (.tuple #[.int .i64 r1, .int .i64 r2]) ∧ Below w.heap.size w w' := by
 have hu37 := Try.underlying37
 have HR0_4 := aM hr0_4
 have HC0_4 := aM hc0_4
 clear hr0_4 hc0_4
 have HB := aM (Below.refl w.heap.size w)
 have H : ((spec_l04Size.f k a0_0 a0_1 a0_2 a0_3 l0_4 a1).bind fun bt222 => ((spec_l04Up.f bt222.1 8).bind fun t224 => ((spec_l04Up.f bt222.2 8).bind fun t225 => (some (t224, t225))))) = some (r1, r2) := h
 clear h
 replace H := oB H
 obtain ⟨⟨t222, t223⟩, A30, H⟩ := H
 replace H : ((spec_l04Up.f t222 8).bind fun t224 => ((spec_l04Up.f t223 8).bind fun t225 => (some (t224, t225)))) = some (r1, r2) := H
 have A3 := aM A30
 clear A30
 obtain ⟨t224, A4, H⟩ := oH H
 obtain ⟨t225, A5, H⟩ := oH H
 simp only [Option.some.injEq, Prod.mk.injEq] at H
 obtain ⟨rfl, rfl⟩ := H
 go_enter Try.func62, Try.ntmps62
 go_wp2_with (first | ((with_reducible refine gate_dst (N := 2) rfl ?_); refine box_event ?hg (N := 2) ?hd (cs := #[.int .i64 a0_0, .int .i64 a0_1, .int .i64 a0_2, .int .i64 a0_3, .slice A0_4 l0_4.length c0_4]) (t := 37) ?hr ?_; (case hd => rfl); (case hg => rfl); (case hr => first | (go_simp; done) | (go_simp; rfl)); intro gb221 hg w6 hbox hb; have BK221 := aM hbox; have GW221 := aM (zG hg : w.heap.size ≤ gb221); have GE221 := aM (zG hg : w.heap.size ≤ gb221); replace HB := cH HB hb; clear hb hbox hg; obtain ⟨hcz7_0, hcz7_1, hcz7_2, hcz7_3, hcz7_4⟩ := kk5 BK221; obtain ⟨hfz7_0, hfz7_1, hfz7_2, hfz7_3, hfz7_4⟩ := kg5 BK221) | (go_at_call 78; (with_reducible refine (spec_l04Size.calls k a0_0 a0_1 a0_2 a0_3 _ _ l0_4 a1 t222 t223 _ ?side1 ?side2 A3.out).mono ?_); (case side1 => exact zC (Kd.C_below HR0_4.out HB.out)); (case side2 => exact HC0_4.out); rintro e w8 ⟨rfl, hb⟩; replace BK221 := cB BK221 hb; replace HB := cH HB hb; (try clear hb)) | ((with_reducible refine gate_callee (f := 77) rfl ?_); refine zGl (some 15) Try.func77 #[.int .i64 t222, .int .i64 8] ?_; (with_reducible refine (spec_l04Up.calls t222 8 t224 _ A4.out).mono ?_); rintro e w' ⟨rfl, ⟨nd, rfl⟩⟩; refine ⟨_, rfl, ?_⟩) | ((with_reducible refine gate_callee (f := 77) rfl ?_); refine zGl (some 17) Try.func77 #[.int .i64 t223, .int .i64 8] ?_; (with_reducible refine (spec_l04Up.calls t223 8 t225 _ A5.out).mono ?_); rintro e w' ⟨rfl, ⟨nd, rfl⟩⟩; refine ⟨_, rfl, ?_⟩))
 go_ret2
 exact ⟨zR, zH⟩

def needI (w h : Int) (l : List S74) (c : Int) : Int × Int := (upI (sizeI w h l c).1 8, upI (sizeI w h l c).2 8)
theorem sNeed_f {p w h r : Int} {l : List S74} (hl : l.length ≤ 1048576) (hb : frameB p w h r l = true) (c : Int) (h0 : 0 ≤ c) (h1 : c < (l.length : Int)) : Ev (fun k => spec_l11Need.f k p w h r l c) (needI w h l c) := by
  unfold spec_l11Need.f needI
  exact evBind (sSize_f hl hb c h0 h1) (evBind (evConst (sUp_f _ _ (by omega))) (evBind (evConst (sUp_f _ _ (by omega))) (Ev.now _)))

/-! ### spec_l11Hidden: function 41 -/
def spec_l11Hidden.f (k : Nat) (a0_0 : Int) (a0_1 : Int) (a0_2 : Int) (a0_3 : Int) (l0_4 : List (S74)) (a1_0 : Int) (a1_1 : Int) (a1_2 : Int) : Option (Bool) := (spec_l11Need.f k a0_0 a0_1 a0_2 a0_3 l0_4 a1_0).bind fun bt228 => (if a1_1 ≥ bt228.2 then (some true) else (some (decide (a1_2 ≥ bt228.1))))
theorem spec_l11Hidden.mono : ∀ a0 a1 a2 a3 a4 a5 a6 a7 k, LeO (spec_l11Hidden.f k a0 a1 a2 a3 a4 a5 a6 a7) (spec_l11Hidden.f (k + 1) a0 a1 a2 a3 a4 a5 a6 a7) := by
 intro a0 a1 a2 a3 a4 a5 a6 a7 k
 unfold spec_l11Hidden.f
 repeat' first
   | (with_reducible exact spec_l11Need.mono _ _ _ _ _ _ _)
   | (with_reducible exact LeO.refl _)
   | (with_reducible exact LeO.none _)
   | (with_reducible refine LeO.ite ?_ ?_)
   | (with_reducible refine LeO.bind ?_ (fun _ => ?_))
   | exact spec_l11Need.mono _ _ _ _ _ _ _
   | exact LeO.none _
   | refine LeO.ite ?_ ?_
   | refine LeO.bind ?_ (fun _ => ?_)
set_option maxHeartbeats 8000000 in
set_option maxRecDepth 100000 in
theorem spec_l11Hidden.calls (k : Nat) (a0_0 : Int) (a0_1 : Int) (a0_2 : Int) (a0_3 : Int) (A0_4 : Option Addr) (c0_4 : Nat) (l0_4 : List (S74)) (a1_0 : Int) (a1_1 : Int) (a1_2 : Int) (r : Bool) (w : World) (hr0_4 : Kd.C k74 w A0_4 l0_4.length l0_4) (hc0_4 : l0_4.length ≤ c0_4) (h : spec_l11Hidden.f k a0_0 a0_1 a0_2 a0_3 l0_4 a1_0 a1_1 a1_2 = some r) :
  Calls Try.prog 41 #[.agg #[.int .i64 a0_0, .int .i64 a0_1, .int .i64 a0_2, .int .i64 a0_3, .slice A0_4 l0_4.length c0_4], .agg #[.int .i64 a1_0, .int .i64 a1_1, .int .i64 a1_2]] w fun e w' => e = .returned (.bool r) ∧ Below w.heap.size w w' := by
 have hu37 := Try.underlying37
 have hu79 := Try.underlying79
 have HR0_4 := aM hr0_4
 have HC0_4 := aM hc0_4
 clear hr0_4 hc0_4
 have HB := aM (Below.refl w.heap.size w)
 have H : ((spec_l11Need.f k a0_0 a0_1 a0_2 a0_3 l0_4 a1_0).bind fun bt228 => (if a1_1 ≥ bt228.2 then (some true) else (some (decide (a1_2 ≥ bt228.1))))) = some r := h
 clear h
 replace H := oB H
 obtain ⟨⟨t228, t229⟩, A30, H⟩ := H
 replace H : (if a1_1 ≥ t229 then (some true) else (some (decide (a1_2 ≥ t228)))) = some r := H
 have A3 := aM A30
 clear A30
 by_cases c4 : a1_1 ≥ t229
 ·rw [if_pos c4] at H
  have c4b0 : decide (t229 ≤ a1_1) = true := decide_eq_true c4
  clear c4
  obtain rfl := Option.some.inj H
  go_enter Try.func41, Try.ntmps41
  go_wp2_with (first | ((with_reducible refine gate_dst (N := 2) rfl ?_); refine box_event ?hg (N := 2) ?hd (cs := #[.int .i64 a0_0, .int .i64 a0_1, .int .i64 a0_2, .int .i64 a0_3, .slice A0_4 l0_4.length c0_4]) (t := 37) ?hr ?_; (case hd => rfl); (case hg => rfl); (case hr => first | (go_simp; done) | (go_simp; rfl)); intro gb226 hg w5 hbox hb; have BK226 := aM hbox; have GW226 := aM (zG hg : w.heap.size ≤ gb226); have GE226 := aM (zG hg : w.heap.size ≤ gb226); replace HB := cH HB hb; clear hb hbox hg) | ((with_reducible refine gate_dst (N := 3) rfl ?_); refine box_event ?hg (N := 3) ?hd (cs := #[.int .i64 a1_0, .int .i64 a1_1, .int .i64 a1_2]) (t := 79) ?hr ?_; (case hd => rfl); (case hg => rfl); (case hr => first | (go_simp; done) | (go_simp; rfl)); intro gb227 hg w6 hbox hb; have BK227 := aM hbox; have GW227 := aM (zG hg : w.heap.size ≤ gb227); have GE227 := aM (zG hg : w.heap.size ≤ gb227); replace HB := cH HB hb; have NB226_227 := aM ((zL hg BK226)); have NB227_226 := aM ((zM hg BK226)); replace BK226 := cB BK226 hb; clear hb hbox hg; have hnb7 := NB226_227.out; have hnc7 := NB227_226.out; obtain ⟨hcz8_0, hcz8_1, hcz8_2, hcz8_3, hcz8_4⟩ := kk5 BK226; obtain ⟨hfz8_0, hfz8_1, hfz8_2, hfz8_3, hfz8_4⟩ := kg5 BK226; obtain ⟨hcz9_0, hcz9_1, hcz9_2⟩ := kk3 BK227; obtain ⟨hfz9_0, hfz9_1, hfz9_2⟩ := kg3 BK227) | (go_at_call 62; (with_reducible refine (spec_l11Need.calls k a0_0 a0_1 a0_2 a0_3 _ _ l0_4 a1_0 t228 t229 _ ?side1 ?side2 A3.out).mono ?_); (case side1 => exact zC (Kd.C_below HR0_4.out HB.out)); (case side2 => exact HC0_4.out); rintro e w10 ⟨rfl, hb⟩; replace BK226 := cB BK226 hb; replace BK227 := cB BK227 hb; replace HB := cH HB hb; (try clear hb); obtain ⟨hcz11_0, hcz11_1, hcz11_2⟩ := kk3 BK227; obtain ⟨hfz11_0, hfz11_1, hfz11_2⟩ := kg3 BK227))
  go_ret
  exact ⟨zR, zH⟩
 ·rw [if_neg c4] at H
  have c4b0 : decide (t229 ≤ a1_1) = false := decide_eq_false c4
  clear c4
  obtain rfl := Option.some.inj H
  go_enter Try.func41, Try.ntmps41
  go_wp2_with (first | ((with_reducible refine gate_dst (N := 2) rfl ?_); refine box_event ?hg (N := 2) ?hd (cs := #[.int .i64 a0_0, .int .i64 a0_1, .int .i64 a0_2, .int .i64 a0_3, .slice A0_4 l0_4.length c0_4]) (t := 37) ?hr ?_; (case hd => rfl); (case hg => rfl); (case hr => first | (go_simp; done) | (go_simp; rfl)); intro gb226 hg w12 hbox hb; have BK226 := aM hbox; have GW226 := aM (zG hg : w.heap.size ≤ gb226); have GE226 := aM (zG hg : w.heap.size ≤ gb226); replace HB := cH HB hb; clear hb hbox hg) | ((with_reducible refine gate_dst (N := 3) rfl ?_); refine box_event ?hg (N := 3) ?hd (cs := #[.int .i64 a1_0, .int .i64 a1_1, .int .i64 a1_2]) (t := 79) ?hr ?_; (case hd => rfl); (case hg => rfl); (case hr => first | (go_simp; done) | (go_simp; rfl)); intro gb227 hg w13 hbox hb; have BK227 := aM hbox; have GW227 := aM (zG hg : w.heap.size ≤ gb227); have GE227 := aM (zG hg : w.heap.size ≤ gb227); replace HB := cH HB hb; have NB226_227 := aM ((zL hg BK226)); have NB227_226 := aM ((zM hg BK226)); replace BK226 := cB BK226 hb; clear hb hbox hg; have hnb14 := NB226_227.out; have hnc14 := NB227_226.out; obtain ⟨hcz15_0, hcz15_1, hcz15_2, hcz15_3, hcz15_4⟩ := kk5 BK226; obtain ⟨hfz15_0, hfz15_1, hfz15_2, hfz15_3, hfz15_4⟩ := kg5 BK226; obtain ⟨hcz16_0, hcz16_1, hcz16_2⟩ := kk3 BK227; obtain ⟨hfz16_0, hfz16_1, hfz16_2⟩ := kg3 BK227) | (go_at_call 62; (with_reducible refine (spec_l11Need.calls k a0_0 a0_1 a0_2 a0_3 _ _ l0_4 a1_0 t228 t229 _ ?side1 ?side2 A3.out).mono ?_); (case side1 => exact zC (Kd.C_below HR0_4.out HB.out)); (case side2 => exact HC0_4.out); rintro e w17 ⟨rfl, hb⟩; replace BK226 := cB BK226 hb; replace BK227 := cB BK227 hb; replace HB := cH HB hb; (try clear hb); obtain ⟨hcz18_0, hcz18_1, hcz18_2⟩ := kk3 BK227; obtain ⟨hfz18_0, hfz18_1, hfz18_2⟩ := kg3 BK227))
  go_ret
  exact ⟨zR, zH⟩

def hiddenB (w h : Int) (l : List S74) (c row col : Int) : Bool := decide (row ≥ (needI w h l c).2) || decide (col ≥ (needI w h l c).1)
theorem sHidden_f {p w h r : Int} {l : List S74} (hl : l.length ≤ 1048576) (hb : frameB p w h r l = true) (c row col : Int) (h0 : 0 ≤ c) (h1 : c < (l.length : Int)) : Ev (fun k => spec_l11Hidden.f k p w h r l c row col) (hiddenB w h l c row col) := by
  unfold spec_l11Hidden.f hiddenB
  refine evBind (sNeed_f hl hb c h0 h1) (evIf (fun hh => ?_) (fun hh => ?_))
  · rw [decide_eq_true hh, Bool.true_or]; exact Ev.now _
  · rw [decide_eq_false hh, Bool.false_or]; exact Ev.now _

/-! ### spec_l11Zero: function 42 -/
def spec_l11Zero.l0 : Nat → List Int → Int → Option (Bool)
  | 0, _, _ => none
  | k + 1, x0, x3 => if x3 < (x0.length : Int) then (if 0 ≤ x3 then (if (rd x0 x3) = 0 then (spec_l11Zero.l0 k x0 (wrap64 (x3 + 1))) else (some false)) else (none)) else (some true)
def spec_l11Zero.f (k : Nat) (l0 : List Int) : Option (Bool) := spec_l11Zero.l0 k l0 0
theorem spec_l11Zero.mono_l : ∀ k, (∀ y0 y1, LeO (spec_l11Zero.l0 k y0 y1) (spec_l11Zero.l0 (k + 1) y0 y1))
 | 0 => fun _ _ r h => by simp [spec_l11Zero.l0] at h
 | k + 1 => by
  have ih0 := spec_l11Zero.mono_l k
  ·intro y0 y1
   unfold spec_l11Zero.l0
   repeat' first
   | (with_reducible exact ih0 _ _)
   | (with_reducible exact LeO.refl _)
   | (with_reducible exact LeO.none _)
   | (with_reducible refine LeO.ite ?_ ?_)
   | (with_reducible refine LeO.bind ?_ (fun _ => ?_))
   | exact ih0 _ _
   | exact LeO.none _
   | refine LeO.ite ?_ ?_
   | refine LeO.bind ?_ (fun _ => ?_)
theorem spec_l11Zero.mono : ∀ a0 k, LeO (spec_l11Zero.f k a0) (spec_l11Zero.f (k + 1) a0) := by
 intro a0 k
 have ih0 := spec_l11Zero.mono_l k
 unfold spec_l11Zero.f
 repeat' first
   | (with_reducible exact ih0 _ _)
   | (with_reducible exact LeO.refl _)
   | (with_reducible exact LeO.none _)
   | (with_reducible refine LeO.ite ?_ ?_)
   | (with_reducible refine LeO.bind ?_ (fun _ => ?_))
   | exact ih0 _ _
   | exact LeO.none _
   | refine LeO.ite ?_ ?_
   | refine LeO.bind ?_ (fun _ => ?_)
set_option maxHeartbeats 8000000 in
set_option maxRecDepth 100000 in
theorem spec_l11Zero.calls (k : Nat) (A0 : Option Addr) (c0 : Nat) (l0 : List Int) (r : Bool) (w : World) (hr0 : Kd.C (Kd.int .i64) w A0 l0.length l0) (hc0 : l0.length ≤ c0) (h : spec_l11Zero.f k l0 = some r) :
  Calls Try.prog 42 #[.slice A0 l0.length c0] w fun e w' => e = .returned (.bool r) ∧ Drawn0 w w' := by
 have HR0 := aM hr0
 have HC0 := aM hc0
 clear hr0 hc0
 have H : (spec_l11Zero.l0 k l0 0) = some r := h
 clear h
 have H' := aM H
 clear H
 go_enter Try.func42, Try.ntmps42
 go_wp2
 go_loopg [3] k (fun kq v3 w' => ∃ (x3_1 : Int), v3 = .int .i64 x3_1 ∧ Aside0 (spec_l11Zero.l0 kq l0 x3_1 = some r) ∧ Aside0 (kq ≤ k) ∧ Drawn0 w w')
 case atStart => exact ⟨(0), zS, H', ⟨Nat.le_refl _⟩, by repeat (first | exact Drawn0.refl _ | apply Drawn0.step)⟩
 case round =>
  clear H'
  obtain ⟨x3_1, rfl, HA, HK1, ⟨m1, rfl⟩⟩ := hrel
  cases gk with
  | zero => exact absurd HA.out (by simp [spec_l11Zero.l0])
  | succ k1 =>
   have H := HA.out
   clear HA
   simp only [spec_l11Zero.l0] at H
   by_cases c2 : x3_1 < (l0.length : Int)
   ·rw [if_pos c2] at H
    have c2b0 : decide (x3_1 < (l0.length : Int)) = true := decide_eq_true c2
    clear c2
    by_cases c3 : 0 ≤ x3_1
    ·rw [if_pos c3] at H
     have c3b0 : decide (0 ≤ x3_1) = true := decide_eq_true c3
     clear c3
     by_cases c4 : (rd l0 x3_1) = 0
     ·rw [if_pos c4] at H
      have c4b0 : ((rd l0 x3_1) == 0) = true := beq_iff_eq.mpr c4
      have c4b1 : ((rd l0 x3_1) != 0) = false := bne_eq_false_iff_eq.mpr c4
      clear c4
      have H' := aM H
      clear H
      have p230 : 0 ≤ (x3_1 : Int) := zA
      have q230 : x3_1 < (l0.length : Int) := zA
      obtain ⟨ad230, e230, hx230_0⟩ := Kd.at_int HR0.out x3_1 p230 q230
      cases e230
      replace p230 := eq_true p230
      replace q230 := eq_true q230
      go_wp2
      go_roundg k1
      case measure => have := HK1.out; omega
      case rel => exact ⟨(wrap64 (x3_1 + 1)), zS, H', ⟨by have := HK1.out; omega⟩, by repeat (first | exact Drawn0.refl _ | apply Drawn0.step)⟩
     ·rw [if_neg c4] at H
      have c4b0 : ((rd l0 x3_1) == 0) = false := beq_eq_false_iff_ne.mpr c4
      have c4b1 : ((rd l0 x3_1) != 0) = true := bne_iff_ne.mpr c4
      obtain rfl := Option.some.inj H
      have p230 : 0 ≤ (x3_1 : Int) := zA
      have q230 : x3_1 < (l0.length : Int) := zA
      obtain ⟨ad230, e230, hx230_0⟩ := Kd.at_int HR0.out x3_1 p230 q230
      cases e230
      replace p230 := eq_true p230
      replace q230 := eq_true q230
      go_wp2
      go_ret
      exact ⟨by first | rfl | (simp; done) | (simp [*]; done), by repeat (first | exact Drawn0.refl _ | apply Drawn0.step)⟩
    ·rw [if_neg c3] at H
     exact absurd H (by simp)
   ·rw [if_neg c2] at H
    have c2b0 : decide (x3_1 < (l0.length : Int)) = false := decide_eq_false c2
    clear c2
    obtain rfl := Option.some.inj H
    go_wp2
    go_ret
    exact ⟨by first | rfl | (simp; done) | (simp [*]; done), by repeat (first | exact Drawn0.refl _ | apply Drawn0.step)⟩

theorem zeroR_drop (l : List Int) : ∀ (d i : Nat), i + d = l.length → l.length ≤ 1048576 → Ev (fun k => spec_l11Zero.l0 k l i) (allR (l.drop i) 0 0) := by
  intro d
  induction d with
  | zero =>
    intro i hi hl
    refine Ev.step (fun k => by rw [spec_l11Zero.l0]) ?_
    rw [List.drop_eq_nil_of_le (by omega)]
    exact evNeg (by omega) (Ev.now _)
  | succ d ih =>
    intro i hi hl
    have h1 : i < l.length := by omega
    refine Ev.step (fun k => by rw [spec_l11Zero.l0]) (evPos (by omega) (evPos (by omega) ?_))
    rw [drop_get h1, rd_nat h1]
    simp only [allR, List.all_cons]
    refine evIf (fun hz => ?_) (fun hz => ?_)
    · rw [show inR l[i] 0 0 = true from inR_iff.2 (by omega), Bool.true_and, w64 (by omega) (by omega)]
      exact ih (i + 1) (by omega) hl
    · rw [show inR l[i] 0 0 = false from Bool.eq_false_iff.2 (fun h => hz (by have := inR_iff.1 h; omega)), Bool.false_and]
      exact Ev.now _
theorem sZero_f (l : List Int) (hl : l.length ≤ 1048576) : Ev (fun k => spec_l11Zero.f k l) (allR l 0 0) := by
  have := zeroR_drop l l.length 0 (by omega) hl
  simpa [spec_l11Zero.f] using this

end Go.Proofs.Ytpcfjobojdldnaa.CV
