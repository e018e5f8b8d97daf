/- Functions that a law of this seat reaches: written by a program of this session (wip/xprint.py), and by hand. -/
import Derived.Test.YthajjjpblkhmmaaYMac
import Derived.Test.YthajjjpblkhmmaaYCBx0
import Derived.Test.YthajjjpblkhmmaaYCBx5
import Derived.Test.YthajjjpblkhmmaaYCBx6
namespace Go.Proofs.Ythajjjpblkhmmaa.CB
open Go.RowKit Go.Proofs.Ythajjjpblkhmmaa.B Go.Proofs.YthajjjpblkhmmaaW.PrintWords Go.Proofs.YthajjjpblkhmmaaW.PrintLast Go.Proofs.YthajjjpblkhmmaaW.PrintMore
attribute [local go_sem] max2_int min2_int max_two min_two max_three min_three max_four min_four   -- for this text's walks alone
set_option linter.unusedVariables false
set_option linter.unusedSimpArgs false

def headF (p w h r n : Int) : Bool := (p == 8 || p == 12) && (inR w 1 256 && (inR h 1 256 && (decide (¬ wrap64 (w * h) > 16384) && (inR r 0 255 && inR n 1 4))))
def compB (x : S42) : Bool := inR x.f0 0 255 && (inR x.f1 1 4 && (inR x.f2 1 4 && inR x.f3 0 3))
/-- The components from the i-th on (d of them), s: the sum so far. -/
def framesB (l : List S42) : Nat → Nat → Int → Bool
  | 0, _, s => decide (s ≤ 10)
  | d + 1, i, s => compB (rd_T42 l (i : Int)) && (!((l.take i).any fun y => y.f0 == (rd_T42 l (i : Int)).f0) && framesB l d (i + 1) (wrap64 (s + wrap64 ((rd_T42 l (i : Int)).f1 * (rd_T42 l (i : Int)).f2))))
def frameB (p w h r : Int) (l : List S42) : Bool := headF p w h r (l.length : Int) && framesB l l.length 0 0
theorem rdC_nat {l : List S42} {i : Nat} (h : i < l.length) : rd_T42 l (i : Int) = l[i] := by simp [rd_T42, List.getD, h]
theorem frame_len {p w h r : Int} {l : List S42} (hb : frameB p w h r l = true) : 1 ≤ l.length ∧ l.length ≤ 4 := by
  simp only [frameB, headF, Bool.and_eq_true, inR_iff] at hb
  omega
theorem head_ev (J : Nat → Bool → Option Bool) (p w h r n : Int) (R : Bool) (hT : Ev (fun k => J k true) false) (hF : headF p w h r n = true → Ev (fun k => J k false) R) :
    Ev (fun k => if p = 8 then ((some (inR w 1 256)).bind fun t => (if t = true then ((some (inR h 1 256)).bind fun t => (if t = true then (if (wrap64 (w * h)) > 16384 then (J k true) else ((some (inR r 0 255)).bind fun t => (if t = true then ((some (inR n 1 4)).bind fun t => (J k (!t))) else (J k true)))) else (J k true))) else (J k true))) else (if p = 12 then ((some (inR w 1 256)).bind fun t => (if t = true then ((some (inR h 1 256)).bind fun t => (if t = true then (if (wrap64 (w * h)) > 16384 then (J k true) else ((some (inR r 0 255)).bind fun t => (if t = true then ((some (inR n 1 4)).bind fun t => (J k (!t))) else (J k true)))) else (J k true))) else (J k true))) else (J k true))) (headF p w h r n && R) := by
  have no : headF p w h r n = false → Ev (fun k => J k true) (headF p w h r n && R) := fun hf => by rw [hf, Bool.false_and]; exact hT
  have tail : (p == 8 || p == 12) = true → Ev (fun k => (some (inR w 1 256)).bind fun t => (if t = true then ((some (inR h 1 256)).bind fun t => (if t = true then (if (wrap64 (w * h)) > 16384 then (J k true) else ((some (inR r 0 255)).bind fun t => (if t = true then ((some (inR n 1 4)).bind fun t => (J k (!t))) else (J k true)))) else (J k true))) else (J k true))) (headF p w h r n && R) := fun hp => by
    refine evBind (evConst rfl) (evIf (fun h1 => ?_) (fun h1 => no (by unfold headF; rw [Bool.eq_false_iff.2 h1]; simp)))
    refine evBind (evConst rfl) (evIf (fun h2 => ?_) (fun h2 => no (by unfold headF; rw [Bool.eq_false_iff.2 h2]; simp)))
    refine evIf (fun h3 => no (by unfold headF; rw [decide_eq_false (Classical.not_not.2 h3)]; simp)) (fun h3 => ?_)
    refine evBind (evConst rfl) (evIf (fun h4 => ?_) (fun h4 => no (by unfold headF; rw [Bool.eq_false_iff.2 h4]; simp)))
    refine evBind (evConst rfl) ?_
    cases h5 : inR n 1 4 with
    | false => exact no (by unfold headF; rw [h5]; simp)
    | true =>
      have hh : headF p w h r n = true := by unfold headF; rw [hp, h1, h2, h4, h5, decide_eq_true h3]; rfl
      rw [hh, Bool.true_and]
      exact hF hh
  refine evIf (fun hp => tail (by simp [hp])) (fun hp => evIf (fun hp2 => tail (by simp [hp2])) (fun hp2 => no ?_))
  unfold headF
  rw [show (p == 8 || p == 12) = false from by simp [hp, hp2], Bool.false_and]
theorem comp_ev (J : Nat → Bool → Option Bool) (x : S42) (R : Bool) (hT : Ev (fun k => J k true) false) (hF : Ev (fun k => J k false) R) :
    Ev (fun k => (some (inR x.f0 0 255)).bind fun t => (if t = true then ((some (inR x.f1 1 4)).bind fun t => (if t = true then ((some (inR x.f2 1 4)).bind fun t => (if t = true then ((some (inR x.f3 0 3)).bind fun t => (J k (!t))) else (J k true))) else (J k true))) else (J k true))) (compB x && R) := by
  have no : compB x = false → Ev (fun k => J k true) (compB x && R) := fun hf => by rw [hf, Bool.false_and]; exact hT
  refine evBind (evConst rfl) (evIf (fun h1 => ?_) (fun h1 => no (by unfold compB; rw [Bool.eq_false_iff.2 h1]; simp)))
  refine evBind (evConst rfl) (evIf (fun h2 => ?_) (fun h2 => no (by unfold compB; rw [Bool.eq_false_iff.2 h2]; simp)))
  refine evBind (evConst rfl) (evIf (fun h3 => ?_) (fun h3 => no (by unfold compB; rw [Bool.eq_false_iff.2 h3]; simp)))
  refine evBind (evConst rfl) ?_
  cases h4 : inR x.f3 0 3 with
  | false => exact no (by unfold compB; rw [h4]; simp)
  | true =>
    have hh : compB x = true := by unfold compB; rw [h1, h2, h3, h4]; rfl
    rw [hh, Bool.true_and]
    exact hF
theorem take_any_succ (l : List S42) (q : S42 → Bool) {j : Nat} (h : j < l.length) : (l.take (j + 1)).any q = ((l.take j).any q || q l[j]) := by
  rw [List.take_succ_eq_append_getElem h, List.any_append]
  simp
theorem sFrame_l1 (p w h r : Int) (l : List S42) (hl : l.length ≤ 1048576) (i : Nat) (hi : i < l.length) (c : S42) (s : Int) (R : Bool)
    (hR : Ev (fun k => spec_FrameOk.l0 k (wrap64 (s + (wrap64 (c.f1 * c.f2)))) (wrap64 ((i : Int) + 1)) p w h r l) R) :
    ∀ (d j : Nat), j + d = i → ((l.take j).any fun y => y.f0 == c.f0) = false → Ev (fun k => spec_FrameOk.l1 k s i j p w h r l c.f0 c.f1 c.f2 c.f3) (!((l.take i).any fun y => y.f0 == c.f0) && R) := by
  intro d
  induction d with
  | zero =>
    intro j hj ha
    obtain rfl : j = i := by omega
    refine Ev.step (fun k => by rw [spec_FrameOk.l1]) (evNeg (by omega) ?_)
    rw [ha]
    simpa using hR
  | succ d ih =>
    intro j hj ha
    have hjl : j < l.length := by omega
    refine Ev.step (fun k => by rw [spec_FrameOk.l1]) (evPos (by omega) (evPos (by omega) (evPos (by omega) ?_)))
    rw [rdC_nat hjl]
    refine evIf (fun hc => ?_) (fun hc => ?_)
    · have : ((l.take i).any fun y => y.f0 == c.f0) = true := by
        rw [List.any_eq_true]
        exact ⟨l[j], List.mem_take_iff_getElem.2 ⟨j, by omega, rfl⟩, by simp [hc]⟩
      rw [this]
      exact Ev.now _
    · rw [w64 (by omega) (by omega)]
      refine ih (j + 1) (by omega) ?_
      rw [take_any_succ l _ hjl, ha]
      simp [hc]
theorem sFrame_l0 (p w h r : Int) (l : List S42) (hl : l.length ≤ 1048576) : ∀ (d i : Nat) (s : Int), i + d = l.length → Ev (fun k => spec_FrameOk.l0 k s i p w h r l) (framesB l d i s) := by
  intro d
  induction d with
  | zero =>
    intro i s hi
    refine Ev.step (fun k => by rw [spec_FrameOk.l0]) (evNeg (by omega) ?_)
    exact Ev.now _
  | succ d ih =>
    intro i s hi
    have hil : i < l.length := by omega
    refine Ev.step (fun k => by rw [spec_FrameOk.l0]) (evPos (by omega) (evPos (by omega) ?_))
    simp only [between_f]
    rw [framesB]
    refine comp_ev (fun k b => spec_FrameOk.j2 k s i b p w h r l (rd_T42 l (i : Int)).f0 (rd_T42 l (i : Int)).f1 (rd_T42 l (i : Int)).f2 (rd_T42 l (i : Int)).f3) (rd_T42 l (i : Int)) _ ?_ ?_
    · refine Ev.step (fun k => by rw [spec_FrameOk.j2]) (evPos rfl ?_)
      exact Ev.now _
    · refine Ev.step (fun k => by rw [spec_FrameOk.j2]) (evNeg (by simp) ?_)
      refine sFrame_l1 p w h r l hl i hil (rd_T42 l (i : Int)) s _ ?_ i 0 (by omega) (by simp)
      rw [w64 (x := (i : Int) + 1) (by omega) (by omega)]
      exact ih (i + 1) _ (by omega)
theorem sFrameOk_f (p w h r : Int) (l : List S42) (hl : l.length ≤ 1048576) : Ev (fun k => spec_FrameOk.f k p w h r l) (frameB p w h r l) := by
  unfold spec_FrameOk.f frameB
  simp only [between_f]
  refine head_ev (fun k b => spec_FrameOk.j0 k b p w h r l) p w h r (l.length : Int) _ ?_ (fun _ => ?_)
  · refine Ev.step (fun k => by rw [spec_FrameOk.j0]) (evPos rfl ?_)
    exact Ev.now _
  · refine Ev.step (fun k => by rw [spec_FrameOk.j0]) (evNeg (by simp) ?_)
    exact sFrame_l0 p w h r l hl l.length 0 0 (by omega)

/-! ### spec_l04Most: function 143 -/
def spec_l04Most.l0 : Nat → Int → Int → Int → Int → Int → Int → Int → List (S42) → Option (Int × Int)
  | 0, _, _, _, _, _, _, _, _ => none
  | k + 1, x4, x5, x6, x194000, x194001, x194002, x194003, x194004 => if x6 < (x194004.length : Int) then (if 0 ≤ x6 then (if ((rd_T42 x194004 x6).f1) > x4 then (if ((rd_T42 x194004 x6).f2) > x5 then (spec_l04Most.l0 k ((rd_T42 x194004 x6).f1) ((rd_T42 x194004 x6).f2) (wrap64 (x6 + 1)) x194000 x194001 x194002 x194003 x194004) else (spec_l04Most.l0 k ((rd_T42 x194004 x6).f1) x5 (wrap64 (x6 + 1)) x194000 x194001 x194002 x194003 x194004)) else (if ((rd_T42 x194004 x6).f2) > x5 then (spec_l04Most.l0 k x4 ((rd_T42 x194004 x6).f2) (wrap64 (x6 + 1)) x194000 x194001 x194002 x194003 x194004) else (spec_l04Most.l0 k x4 x5 (wrap64 (x6 + 1)) x194000 x194001 x194002 x194003 x194004))) else (none)) else (some (x4, x5))
def spec_l04Most.f (k : Nat) (a0_0 : Int) (a0_1 : Int) (a0_2 : Int) (a0_3 : Int) (l0_4 : List (S42)) : Option (Int × Int) := spec_l04Most.l0 k 1 1 0 a0_0 a0_1 a0_2 a0_3 l0_4
set_option maxHeartbeats 8000000 in
set_option maxRecDepth 100000 in
theorem spec_l04Most.calls (k : Nat) (a0_0 : Int) (a0_1 : Int) (a0_2 : Int) (a0_3 : Int) (A0_4 : Option Addr) (c0_4 : Nat) (l0_4 : List (S42)) (r1 : Int) (r2 : Int) (w : World) (hr0_4 : Kd.C k42 w A0_4 l0_4.length l0_4) (hc0_4 : l0_4.length ≤ c0_4) (h : spec_l04Most.f k a0_0 a0_1 a0_2 a0_3 l0_4 = some (r1, r2)) :
  Calls Try.prog 143 #[.agg #[.int .i64 a0_0, .int .i64 a0_1, .int .i64 a0_2, .int .i64 a0_3, .slice A0_4 l0_4.length c0_4]] w fun e w' => e = .returned (.tuple #[.int .i64 r1, .int .i64 r2]) ∧ Below w.heap.size w w' := by
 have hu45 := Try.underlying45
 have HR0_4 := aM hr0_4
 have HC0_4 := aM hc0_4
 clear hr0_4 hc0_4
 have HB := aM (Below.refl w.heap.size w)
 have H : (spec_l04Most.l0 k 1 1 0 a0_0 a0_1 a0_2 a0_3 l0_4) = some (r1, r2) := h
 clear h
 have H' := aM H
 clear H
 go_enter Try.func143, Try.ntmps143
 go_wp2_with (first | ((with_reducible refine gate_dst (N := 1) rfl ?_); refine box_event ?hg (N := 1) ?hd (cs := #[.int .i64 a0_0, .int .i64 a0_1, .int .i64 a0_2, .int .i64 a0_3, .slice A0_4 l0_4.length c0_4]) (t := 45) ?hr ?_; (case hd => rfl); (case hg => rfl); (case hr => first | (go_simp; done) | (go_simp; rfl)); intro gb193 hg w2 hbox hb; have BK193 := aM hbox; have GW193 := aM (zG hg : w.heap.size ≤ gb193); have GE193 := aM (zG hg : w.heap.size ≤ gb193); replace HB := cH HB hb; clear hb hbox hg))
 go_loopg [4, 5, 6] k (fun kq v4 v5 v6 w' => ∃ (x4_1 : Int) (x5_1 : Int) (x6_1 : Int), v4 = .int .i64 x4_1 ∧ v5 = .int .i64 x5_1 ∧ v6 = .int .i64 x6_1 ∧ Aside0 (spec_l04Most.l0 kq x4_1 x5_1 x6_1 a0_0 a0_1 a0_2 a0_3 l0_4 = some (r1, r2)) ∧ Aside0 (kq ≤ k) ∧ Aside0 (w'.heap[gb193]? = some (.cells #[.int .i64 a0_0, .int .i64 a0_1, .int .i64 a0_2, .int .i64 a0_3, (.slice A0_4 l0_4.length c0_4)] 45 (0, 0))) ∧ Aside0 (Below w.heap.size w w'))
 case atStart => exact ⟨(1), (1), (0), zS, zS, zS, H', ⟨Nat.le_refl _⟩, ⟨zK BK193⟩, ⟨zH⟩⟩
 case round =>
  clear H'
  obtain ⟨x4_1, x5_1, x6_1, rfl, rfl, rfl, HA, HK1, BK193, HB⟩ := hrel
  cases gk with
  | zero => exact absurd HA.out (by simp [spec_l04Most.l0])
  | succ k1 =>
   have H := HA.out
   clear HA
   simp only [spec_l04Most.l0] at H
   by_cases c3 : x6_1 < (l0_4.length : Int)
   ·rw [if_pos c3] at H
    have c3b0 : decide (x6_1 < (l0_4.length : Int)) = true := decide_eq_true c3
    clear c3
    by_cases c4 : 0 ≤ x6_1
    ·rw [if_pos c4] at H
     have c4b0 : decide (0 ≤ x6_1) = true := decide_eq_true c4
     clear c4
     by_cases c5 : ((rd_T42 l0_4 x6_1).f1) > x4_1
     ·rw [if_pos c5] at H
      have c5b0 : decide (x4_1 < ((rd_T42 l0_4 x6_1).f1)) = true := decide_eq_true c5
      clear c5
      by_cases c6 : ((rd_T42 l0_4 x6_1).f2) > x5_1
      ·rw [if_pos c6] at H
       have c6b0 : decide (x5_1 < ((rd_T42 l0_4 x6_1).f2)) = true := decide_eq_true c6
       clear c6
       have H' := aM H
       clear H
       obtain ⟨hcz7_0, hcz7_1, hcz7_2, hcz7_3, hcz7_4⟩ := kk5 BK193
       obtain ⟨hfz7_0, hfz7_1, hfz7_2, hfz7_3, hfz7_4⟩ := kg5 BK193
       have p194 : 0 ≤ (x6_1 : Int) := zA
       have q194 : x6_1 < (l0_4.length : Int) := zA
       obtain ⟨ad194, e194, hx194_0, hx194_1, hx194_2, hx194_3⟩ := at_T42 HR0_4.out x6_1 p194 q194
       cases e194
       replace hx194_0 := hX HB hx194_0
       replace hx194_1 := hX HB hx194_1
       replace hx194_2 := hX HB hx194_2
       replace hx194_3 := hX HB hx194_3
       replace p194 := eq_true p194
       replace q194 := eq_true q194
       have p195 : 0 ≤ (x6_1 : Int) := zA
       have q195 : x6_1 < (l0_4.length : Int) := zA
       obtain ⟨ad195, e195, hx195_0, hx195_1, hx195_2, hx195_3⟩ := at_T42 HR0_4.out x6_1 p195 q195
       obtain rfl : ad194 = ad195 := (by injection e195)
       replace hx195_0 := hX HB hx195_0
       replace hx195_1 := hX HB hx195_1
       replace hx195_2 := hX HB hx195_2
       replace hx195_3 := hX HB hx195_3
       replace p195 := eq_true p195
       replace q195 := eq_true q195
       have p196 : 0 ≤ (x6_1 : Int) := zA
       have q196 : x6_1 < (l0_4.length : Int) := zA
       obtain ⟨ad196, e196, hx196_0, hx196_1, hx196_2, hx196_3⟩ := at_T42 HR0_4.out x6_1 p196 q196
       obtain rfl : ad194 = ad196 := (by injection e196)
       replace hx196_0 := hX HB hx196_0
       replace hx196_1 := hX HB hx196_1
       replace hx196_2 := hX HB hx196_2
       replace hx196_3 := hX HB hx196_3
       replace p196 := eq_true p196
       replace q196 := eq_true q196
       have p197 : 0 ≤ (x6_1 : Int) := zA
       have q197 : x6_1 < (l0_4.length : Int) := zA
       obtain ⟨ad197, e197, hx197_0, hx197_1, hx197_2, hx197_3⟩ := at_T42 HR0_4.out x6_1 p197 q197
       obtain rfl : ad194 = ad197 := (by injection e197)
       replace hx197_0 := hX HB hx197_0
       replace hx197_1 := hX HB hx197_1
       replace hx197_2 := hX HB hx197_2
       replace hx197_3 := hX HB hx197_3
       replace p197 := eq_true p197
       replace q197 := eq_true q197
       go_wp2
       go_roundg k1
       case measure => have := HK1.out; omega
       case rel => exact ⟨((rd_T42 l0_4 x6_1).f1), ((rd_T42 l0_4 x6_1).f2), (wrap64 (x6_1 + 1)), zS, zS, zS, H', ⟨by have := HK1.out; omega⟩, ⟨zK BK193⟩, ⟨zH⟩⟩
      ·rw [if_neg c6] at H
       have c6b0 : decide (x5_1 < ((rd_T42 l0_4 x6_1).f2)) = false := decide_eq_false c6
       clear c6
       have H' := aM H
       clear H
       obtain ⟨hcz8_0, hcz8_1, hcz8_2, hcz8_3, hcz8_4⟩ := kk5 BK193
       obtain ⟨hfz8_0, hfz8_1, hfz8_2, hfz8_3, hfz8_4⟩ := kg5 BK193
       have p194 : 0 ≤ (x6_1 : Int) := zA
       have q194 : x6_1 < (l0_4.length : Int) := zA
       obtain ⟨ad194, e194, hx194_0, hx194_1, hx194_2, hx194_3⟩ := at_T42 HR0_4.out x6_1 p194 q194
       cases e194
       replace hx194_0 := hX HB hx194_0
       replace hx194_1 := hX HB hx194_1
       replace hx194_2 := hX HB hx194_2
       replace hx194_3 := hX HB hx194_3
       replace p194 := eq_true p194
       replace q194 := eq_true q194
       have p195 : 0 ≤ (x6_1 : Int) := zA
       have q195 : x6_1 < (l0_4.length : Int) := zA
       obtain ⟨ad195, e195, hx195_0, hx195_1, hx195_2, hx195_3⟩ := at_T42 HR0_4.out x6_1 p195 q195
       obtain rfl : ad194 = ad195 := (by injection e195)
       replace hx195_0 := hX HB hx195_0
       replace hx195_1 := hX HB hx195_1
       replace hx195_2 := hX HB hx195_2
       replace hx195_3 := hX HB hx195_3
       replace p195 := eq_true p195
       replace q195 := eq_true q195
       have p196 : 0 ≤ (x6_1 : Int) := zA
       have q196 : x6_1 < (l0_4.length : Int) := zA
       obtain ⟨ad196, e196, hx196_0, hx196_1, hx196_2, hx196_3⟩ := at_T42 HR0_4.out x6_1 p196 q196
       obtain rfl : ad194 = ad196 := (by injection e196)
       replace hx196_0 := hX HB hx196_0
       replace hx196_1 := hX HB hx196_1
       replace hx196_2 := hX HB hx196_2
       replace hx196_3 := hX HB hx196_3
       replace p196 := eq_true p196
       replace q196 := eq_true q196
       go_wp2
       go_roundg k1
       case measure => have := HK1.out; omega
       case rel => exact ⟨((rd_T42 l0_4 x6_1).f1), (x5_1), (wrap64 (x6_1 + 1)), zS, zS, zS, H', ⟨by have := HK1.out; omega⟩, ⟨zK BK193⟩, ⟨zH⟩⟩
     ·rw [if_neg c5] at H
      have c5b0 : decide (x4_1 < ((rd_T42 l0_4 x6_1).f1)) = false := decide_eq_false c5
      clear c5
      by_cases c9 : ((rd_T42 l0_4 x6_1).f2) > x5_1
      ·rw [if_pos c9] at H
       have c9b0 : decide (x5_1 < ((rd_T42 l0_4 x6_1).f2)) = true := decide_eq_true c9
       clear c9
       have H' := aM H
       clear H
       obtain ⟨hcz10_0, hcz10_1, hcz10_2, hcz10_3, hcz10_4⟩ := kk5 BK193
       obtain ⟨hfz10_0, hfz10_1, hfz10_2, hfz10_3, hfz10_4⟩ := kg5 BK193
       have p194 : 0 ≤ (x6_1 : Int) := zA
       have q194 : x6_1 < (l0_4.length : Int) := zA
       obtain ⟨ad194, e194, hx194_0, hx194_1, hx194_2, hx194_3⟩ := at_T42 HR0_4.out x6_1 p194 q194
       cases e194
       replace hx194_0 := hX HB hx194_0
       replace hx194_1 := hX HB hx194_1
       replace hx194_2 := hX HB hx194_2
       replace hx194_3 := hX HB hx194_3
       replace p194 := eq_true p194
       replace q194 := eq_true q194
       have p198 : 0 ≤ (x6_1 : Int) := zA
       have q198 : x6_1 < (l0_4.length : Int) := zA
       obtain ⟨ad198, e198, hx198_0, hx198_1, hx198_2, hx198_3⟩ := at_T42 HR0_4.out x6_1 p198 q198
       obtain rfl : ad194 = ad198 := (by injection e198)
       replace hx198_0 := hX HB hx198_0
       replace hx198_1 := hX HB hx198_1
       replace hx198_2 := hX HB hx198_2
       replace hx198_3 := hX HB hx198_3
       replace p198 := eq_true p198
       replace q198 := eq_true q198
       have p199 : 0 ≤ (x6_1 : Int) := zA
       have q199 : x6_1 < (l0_4.length : Int) := zA
       obtain ⟨ad199, e199, hx199_0, hx199_1, hx199_2, hx199_3⟩ := at_T42 HR0_4.out x6_1 p199 q199
       obtain rfl : ad194 = ad199 := (by injection e199)
       replace hx199_0 := hX HB hx199_0
       replace hx199_1 := hX HB hx199_1
       replace hx199_2 := hX HB hx199_2
       replace hx199_3 := hX HB hx199_3
       replace p199 := eq_true p199
       replace q199 := eq_true q199
       go_wp2
       go_roundg k1
       case measure => have := HK1.out; omega
       case rel => exact ⟨(x4_1), ((rd_T42 l0_4 x6_1).f2), (wrap64 (x6_1 + 1)), zS, zS, zS, H', ⟨by have := HK1.out; omega⟩, ⟨zK BK193⟩, ⟨zH⟩⟩
      ·rw [if_neg c9] at H
       have c9b0 : decide (x5_1 < ((rd_T42 l0_4 x6_1).f2)) = false := decide_eq_false c9
       clear c9
       have H' := aM H
       clear H
       obtain ⟨hcz11_0, hcz11_1, hcz11_2, hcz11_3, hcz11_4⟩ := kk5 BK193
       obtain ⟨hfz11_0, hfz11_1, hfz11_2, hfz11_3, hfz11_4⟩ := kg5 BK193
       have p194 : 0 ≤ (x6_1 : Int) := zA
       have q194 : x6_1 < (l0_4.length : Int) := zA
       obtain ⟨ad194, e194, hx194_0, hx194_1, hx194_2, hx194_3⟩ := at_T42 HR0_4.out x6_1 p194 q194
       cases e194
       replace hx194_0 := hX HB hx194_0
       replace hx194_1 := hX HB hx194_1
       replace hx194_2 := hX HB hx194_2
       replace hx194_3 := hX HB hx194_3
       replace p194 := eq_true p194
       replace q194 := eq_true q194
       have p198 : 0 ≤ (x6_1 : Int) := zA
       have q198 : x6_1 < (l0_4.length : Int) := zA
       obtain ⟨ad198, e198, hx198_0, hx198_1, hx198_2, hx198_3⟩ := at_T42 HR0_4.out x6_1 p198 q198
       obtain rfl : ad194 = ad198 := (by injection e198)
       replace hx198_0 := hX HB hx198_0
       replace hx198_1 := hX HB hx198_1
       replace hx198_2 := hX HB hx198_2
       replace hx198_3 := hX HB hx198_3
       replace p198 := eq_true p198
       replace q198 := eq_true q198
       go_wp2
       go_roundg k1
       case measure => have := HK1.out; omega
       case rel => exact ⟨(x4_1), (x5_1), (wrap64 (x6_1 + 1)), zS, zS, zS, H', ⟨by have := HK1.out; omega⟩, ⟨zK BK193⟩, ⟨zH⟩⟩
    ·rw [if_neg c4] at H
     exact absurd H (by simp)
   ·rw [if_neg c3] at H
    have c3b0 : decide (x6_1 < (l0_4.length : Int)) = false := decide_eq_false c3
    clear c3
    simp only [Option.some.injEq, Prod.mk.injEq] at H
    obtain ⟨rfl, rfl⟩ := H
    obtain ⟨hcz12_0, hcz12_1, hcz12_2, hcz12_3, hcz12_4⟩ := kk5 BK193
    obtain ⟨hfz12_0, hfz12_1, hfz12_2, hfz12_3, hfz12_4⟩ := kg5 BK193
    go_wp2
    go_ret2
    exact ⟨zR, zH⟩

/-- The greatest H and V. -/
def mostP (l : List S42) : Nat → Nat → Int × Int → Int × Int
  | 0, _, s => s
  | d + 1, i, s => mostP l d (i + 1) (mx s.1 (rd_T42 l (i : Int)).f1, mx s.2 (rd_T42 l (i : Int)).f2)
def mostI (l : List S42) : Int × Int := mostP l l.length 0 (1, 1)
theorem sMost_l0 (p w h r : Int) (l : List S42) (hl : l.length ≤ 1048576) : ∀ (d i : Nat) (a b : Int), i + d = l.length → Ev (fun k => spec_l04Most.l0 k a b i p w h r l) (mostP l d i (a, b)) := by
  intro d
  induction d with
  | zero =>
    intro i a b hi
    refine Ev.step (fun k => by rw [spec_l04Most.l0]) (evNeg (by omega) ?_)
    exact Ev.now _
  | succ d ih =>
    intro i a b hi
    refine Ev.step (fun k => by rw [spec_l04Most.l0]) (evPos (by omega) (evPos (by omega) ?_))
    rw [w64 (x := (i : Int) + 1) (by omega) (by omega), mostP]
    unfold mx
    refine evIf (fun h1 => ?_) (fun h1 => ?_)
    · rw [if_pos (show a < _ from h1)]
      refine evIf (fun h2 => ?_) (fun h2 => ?_)
      · rw [if_pos (show b < _ from h2)]
        exact ih (i + 1) _ _ (by omega)
      · rw [if_neg (show ¬ b < _ from h2)]
        exact ih (i + 1) _ _ (by omega)
    · rw [if_neg (show ¬ a < _ from h1)]
      refine evIf (fun h2 => ?_) (fun h2 => ?_)
      · rw [if_pos (show b < _ from h2)]
        exact ih (i + 1) _ _ (by omega)
      · rw [if_neg (show ¬ b < _ from h2)]
        exact ih (i + 1) _ _ (by omega)
theorem sMost_f (p w h r : Int) (l : List S42) (hl : l.length ≤ 1048576) : Ev (fun k => spec_l04Most.f k p w h r l) (mostI l) := sMost_l0 p w h r l hl l.length 0 1 1 (by omega)
theorem mostP_pos (l : List S42) : ∀ (d i : Nat) (s : Int × Int), 1 ≤ s.1 ∧ s.1 ≤ 4 → 1 ≤ s.2 ∧ s.2 ≤ 4 → (∀ j : Nat, j < l.length → (rd_T42 l (j : Int)).f1 ≤ 4 ∧ (rd_T42 l (j : Int)).f2 ≤ 4) → i + d = l.length → (1 ≤ (mostP l d i s).1 ∧ (mostP l d i s).1 ≤ 4) ∧ (1 ≤ (mostP l d i s).2 ∧ (mostP l d i s).2 ≤ 4)
  | 0, _, _, h1, h2, _, _ => ⟨h1, h2⟩
  | d + 1, i, s, h1, h2, hc, hi => by
    have := hc i (by omega)
    rw [mostP]
    refine mostP_pos l d (i + 1) _ ?_ ?_ hc (by omega)
    · unfold mx; split <;> simp only [] <;> omega
    · unfold mx; split <;> simp only [] <;> omega
theorem framesB_comp (l : List S42) : ∀ (d i : Nat) (s : Int), i + d = l.length → framesB l d i s = true → ∀ j : Nat, i ≤ j → j < l.length → compB (rd_T42 l (j : Int)) = true
  | 0, i, _, hi, _, j, h1, h2 => by omega
  | d + 1, i, s, hi, hb, j, h1, h2 => by
    rw [framesB, Bool.and_eq_true, Bool.and_eq_true] at hb
    by_cases e : j = i
    · rw [e]; exact hb.1
    · exact framesB_comp l d (i + 1) _ (by omega) hb.2.2 j (by omega) h2
theorem frame_comp {p w h r : Int} {l : List S42} (hb : frameB p w h r l = true) {j : Nat} (hj : j < l.length) : (1 ≤ (rd_T42 l (j : Int)).f1 ∧ (rd_T42 l (j : Int)).f1 ≤ 4) ∧ (1 ≤ (rd_T42 l (j : Int)).f2 ∧ (rd_T42 l (j : Int)).f2 ≤ 4) := by
  rw [frameB, Bool.and_eq_true] at hb
  have := framesB_comp l l.length 0 0 (by omega) hb.2 j (by omega) hj
  simp only [compB, Bool.and_eq_true, inR_iff] at this
  exact ⟨this.2.1, this.2.2.1⟩
theorem frame_most {p w h r : Int} {l : List S42} (hb : frameB p w h r l = true) : (1 ≤ (mostI l).1 ∧ (mostI l).1 ≤ 4) ∧ (1 ≤ (mostI l).2 ∧ (mostI l).2 ≤ 4) :=
  mostP_pos l l.length 0 (1, 1) (by simp) (by simp) (fun j hj => ⟨(frame_comp hb hj).1.2, (frame_comp hb hj).2.2⟩) (by omega)

/-! ### spec_l04Up: function 144 -/
def spec_l04Up.f (a0 : Int) (a1 : Int) : Option (Int) := if a1 = 0 then (none) else (some (wrap64 (Int.tdiv (wrap64 ((wrap64 (a0 + a1)) - 1)) a1)))
set_option maxHeartbeats 8000000 in
set_option maxRecDepth 100000 in
theorem spec_l04Up.calls (a0 : Int) (a1 : Int) (r : Int) (w : World) (h : spec_l04Up.f a0 a1 = some r) :
  Calls Try.prog 144 #[.int .i64 a0, .int .i64 a1] w fun e w' => e = .returned (.int .i64 r) ∧ Drawn0 w w' := by
 have H : (if a1 = 0 then (none) else (some (wrap64 (Int.tdiv (wrap64 ((wrap64 (a0 + a1)) - 1)) a1)))) = some r := h
 clear h
 by_cases c3 : a1 = 0
 ·rw [if_pos c3] at H
  exact absurd H (by simp)
 ·rw [if_neg c3] at H
  have c3b0 : (a1 == 0) = false := beq_eq_false_iff_ne.mpr c3
  have c3b1 : (a1 != 0) = true := bne_iff_ne.mpr c3
  obtain rfl := Option.some.inj H
  go_enter Try.func144, Try.ntmps144
  go_wp2
  go_ret
  exact ⟨by first | rfl | (simp; done) | (simp [*]; done), by repeat (first | exact Drawn0.refl _ | apply Drawn0.step)⟩

def upI (a b : Int) : Int := wrap64 (Int.tdiv (wrap64 ((wrap64 (a + b)) - 1)) b)
theorem sUp_f (a b : Int) (hb : ¬ b = 0) : spec_l04Up.f a b = some (upI a b) := by unfold spec_l04Up.f upI; rw [if_neg hb]

/-! ### spec_l04Units: function 128 -/
def spec_l04Units.f (k : Nat) (a0_0 : Int) (a0_1 : Int) (a0_2 : Int) (a0_3 : Int) (l0_4 : List (S42)) : Option (Int × Int) := (spec_l04Most.f k a0_0 a0_1 a0_2 a0_3 l0_4).bind fun bt201 => ((spec_l04Up.f a0_1 (wrap64 (8 * bt201.1))).bind fun t203 => ((spec_l04Up.f a0_2 (wrap64 (8 * bt201.2))).bind fun t204 => (some (t203, t204))))
set_option maxHeartbeats 8000000 in
set_option maxRecDepth 100000 in
theorem spec_l04Units.calls (k : Nat) (a0_0 : Int) (a0_1 : Int) (a0_2 : Int) (a0_3 : Int) (A0_4 : Option Addr) (c0_4 : Nat) (l0_4 : List (S42)) (r1 : Int) (r2 : Int) (w : World) (hr0_4 : Kd.C k42 w A0_4 l0_4.length l0_4) (hc0_4 : l0_4.length ≤ c0_4) (h : spec_l04Units.f k a0_0 a0_1 a0_2 a0_3 l0_4 = some (r1, r2)) :
  Calls Try.prog 128 #[.agg #[.int .i64 a0_0, .int .i64 a0_1, .int .i64 a0_2, .int .i64 a0_3, .slice A0_4 l0_4.length c0_4]] w fun e w' => e = .returned (.tuple #[.int .i64 r1, .int .i64 r2]) ∧ Below w.heap.size w w' := by
 have hu45 := Try.underlying45
 have HR0_4 := aM hr0_4
 have HC0_4 := aM hc0_4
 clear hr0_4 hc0_4
 have HB := aM (Below.refl w.heap.size w)
 have H : ((spec_l04Most.f k a0_0 a0_1 a0_2 a0_3 l0_4).bind fun bt201 => ((spec_l04Up.f a0_1 (wrap64 (8 * bt201.1))).bind fun t203 => ((spec_l04Up.f a0_2 (wrap64 (8 * bt201.2))).bind fun t204 => (some (t203, t204))))) = some (r1, r2) := h
 clear h
 replace H := oB H
 obtain ⟨⟨t201, t202⟩, A20, H⟩ := H
 replace H : ((spec_l04Up.f a0_1 (wrap64 (8 * t201))).bind fun t203 => ((spec_l04Up.f a0_2 (wrap64 (8 * t202))).bind fun t204 => (some (t203, t204)))) = some (r1, r2) := H
 have A2 := aM A20
 clear A20
 obtain ⟨t203, A3, H⟩ := oH H
 obtain ⟨t204, A4, H⟩ := oH H
 simp only [Option.some.injEq, Prod.mk.injEq] at H
 obtain ⟨rfl, rfl⟩ := H
 go_enter Try.func128, Try.ntmps128
 repeat (go_wp2_with (first | ((with_reducible refine gate_dst (N := 1) rfl ?_); refine box_event ?hg (N := 1) ?hd (cs := #[.int .i64 a0_0, .int .i64 a0_1, .int .i64 a0_2, .int .i64 a0_3, .slice A0_4 l0_4.length c0_4]) (t := 45) ?hr ?_; (case hd => rfl); (case hg => rfl); (case hr => first | (go_simp; done) | (go_simp; rfl)); intro gb200 hg w5 hbox hb; have BK200 := aM hbox; have GW200 := aM (zG hg : w.heap.size ≤ gb200); have GE200 := aM (zG hg : w.heap.size ≤ gb200); replace HB := cH HB hb; clear hb hbox hg; obtain ⟨hcz6_0, hcz6_1, hcz6_2, hcz6_3, hcz6_4⟩ := kk5 BK200; obtain ⟨hfz6_0, hfz6_1, hfz6_2, hfz6_3, hfz6_4⟩ := kg5 BK200) | (go_at_call 143; (with_reducible refine (spec_l04Most.calls k a0_0 a0_1 a0_2 a0_3 _ _ l0_4 t201 t202 _ ?side1 ?side2 A2.out).mono ?_); (case side1 => exact zC (Kd.C_below HR0_4.out HB.out)); (case side2 => exact HC0_4.out); rintro e w7 ⟨rfl, hb⟩; replace BK200 := cB BK200 hb; replace HB := cH HB hb; (try clear hb); obtain ⟨hcz8_0, hcz8_1, hcz8_2, hcz8_3, hcz8_4⟩ := kk5 BK200; obtain ⟨hfz8_0, hfz8_1, hfz8_2, hfz8_3, hfz8_4⟩ := kg5 BK200) | (go_at_call 144; (with_reducible refine (spec_l04Up.calls a0_1 (wrap64 (8 * t201)) t203 _ A3.out).mono ?_); rintro e w' ⟨rfl, ⟨nd, rfl⟩⟩; (try exact zD)) | (go_at_call 144; (with_reducible refine (spec_l04Up.calls a0_2 (wrap64 (8 * t202)) t204 _ A4.out).mono ?_); rintro e w' ⟨rfl, ⟨nd, rfl⟩⟩; (try exact zD))); go_quiet (first | (go_at_call 144; (with_reducible refine (spec_l04Up.calls a0_1 (wrap64 (8 * t201)) t203 _ A3.out).mono ?_); rintro e w' ⟨rfl, ⟨nd, rfl⟩⟩; (try exact zD)) | (go_at_call 144; (with_reducible refine (spec_l04Up.calls a0_2 (wrap64 (8 * t202)) t204 _ A4.out).mono ?_); rintro e w' ⟨rfl, ⟨nd, rfl⟩⟩; (try exact zD))))
 try go_wp2_with (first | ((with_reducible refine gate_dst (N := 1) rfl ?_); refine box_event ?hg (N := 1) ?hd (cs := #[.int .i64 a0_0, .int .i64 a0_1, .int .i64 a0_2, .int .i64 a0_3, .slice A0_4 l0_4.length c0_4]) (t := 45) ?hr ?_; (case hd => rfl); (case hg => rfl); (case hr => first | (go_simp; done) | (go_simp; rfl)); intro gb200 hg w5 hbox hb; have BK200 := aM hbox; have GW200 := aM (zG hg : w.heap.size ≤ gb200); have GE200 := aM (zG hg : w.heap.size ≤ gb200); replace HB := cH HB hb; clear hb hbox hg; obtain ⟨hcz6_0, hcz6_1, hcz6_2, hcz6_3, hcz6_4⟩ := kk5 BK200; obtain ⟨hfz6_0, hfz6_1, hfz6_2, hfz6_3, hfz6_4⟩ := kg5 BK200) | (go_at_call 143; (with_reducible refine (spec_l04Most.calls k a0_0 a0_1 a0_2 a0_3 _ _ l0_4 t201 t202 _ ?side1 ?side2 A2.out).mono ?_); (case side1 => exact zC (Kd.C_below HR0_4.out HB.out)); (case side2 => exact HC0_4.out); rintro e w7 ⟨rfl, hb⟩; replace BK200 := cB BK200 hb; replace HB := cH HB hb; (try clear hb); obtain ⟨hcz8_0, hcz8_1, hcz8_2, hcz8_3, hcz8_4⟩ := kk5 BK200; obtain ⟨hfz8_0, hfz8_1, hfz8_2, hfz8_3, hfz8_4⟩ := kg5 BK200) | (go_at_call 144; (with_reducible refine (spec_l04Up.calls a0_1 (wrap64 (8 * t201)) t203 _ A3.out).mono ?_); rintro e w' ⟨rfl, ⟨nd, rfl⟩⟩; (try exact zD)) | (go_at_call 144; (with_reducible refine (spec_l04Up.calls a0_2 (wrap64 (8 * t202)) t204 _ A4.out).mono ?_); rintro e w' ⟨rfl, ⟨nd, rfl⟩⟩; (try exact zD)))
 go_ret2
 exact ⟨zR, zH⟩

def unitsI (w h : Int) (l : List S42) : Int × Int := (upI w (wrap64 (8 * (mostI l).1)), upI h (wrap64 (8 * (mostI l).2)))
theorem sUnits_f {p w h r : Int} {l : List S42} (hl : l.length ≤ 1048576) (hb : frameB p w h r l = true) : Ev (fun k => spec_l04Units.f k p w h r l) (unitsI w h l) := by
  obtain ⟨m1, m2⟩ := frame_most hb
  unfold spec_l04Units.f unitsI
  refine evBind (sMost_f p w h r l hl) ?_
  rw [w64 (x := 8 * (mostI l).1) (by omega) (by omega), w64 (x := 8 * (mostI l).2) (by omega) (by omega)]
  refine evBind (evConst (sUp_f _ _ (by omega))) (evBind (evConst (sUp_f _ _ (by omega))) (Ev.now _))

/-! ### spec_l04Blocks: function 95 -/
def spec_l04Blocks.f (k : Nat) (a0_0 : Int) (a0_1 : Int) (a0_2 : Int) (a0_3 : Int) (l0_4 : List (S42)) (a1 : Int) : Option (Int × Int) := (spec_l04Units.f k a0_0 a0_1 a0_2 a0_3 l0_4).bind fun bt206 => (if 0 ≤ a1 then (if a1 < (l0_4.length : Int) then (some (wrap64 (bt206.1 * ((rd_T42 l0_4 a1).f1)), wrap64 (bt206.2 * ((rd_T42 l0_4 a1).f2)))) else (none)) else (none))
set_option maxHeartbeats 8000000 in
set_option maxRecDepth 100000 in
theorem spec_l04Blocks.calls (k : Nat) (a0_0 : Int) (a0_1 : Int) (a0_2 : Int) (a0_3 : Int) (A0_4 : Option Addr) (c0_4 : Nat) (l0_4 : List (S42)) (a1 : Int) (r1 : Int) (r2 : Int) (w : World) (hr0_4 : Kd.C k42 w A0_4 l0_4.length l0_4) (hc0_4 : l0_4.length ≤ c0_4) (h : spec_l04Blocks.f k a0_0 a0_1 a0_2 a0_3 l0_4 a1 = some (r1, r2)) :
  Calls Try.prog 95 #[.agg #[.int .i64 a0_0, .int .i64 a0_1, .int .i64 a0_2, .int .i64 a0_3, .slice A0_4 l0_4.length c0_4], .int .i64 a1] w fun e w' => e = .returned (.tuple #[.int .i64 r1, .int .i64 r2]) ∧ Below w.heap.size w w' := by
 have hu45 := Try.underlying45
 have HR0_4 := aM hr0_4
 have HC0_4 := aM hc0_4
 clear hr0_4 hc0_4
 have HB := aM (Below.refl w.heap.size w)
 have H : ((spec_l04Units.f k a0_0 a0_1 a0_2 a0_3 l0_4).bind fun bt206 => (if 0 ≤ a1 then (if a1 < (l0_4.length : Int) then (some (wrap64 (bt206.1 * ((rd_T42 l0_4 a1).f1)), wrap64 (bt206.2 * ((rd_T42 l0_4 a1).f2)))) else (none)) else (none))) = some (r1, r2) := h
 clear h
 replace H := oB H
 obtain ⟨⟨t206, t207⟩, A30, H⟩ := H
 replace H : (if 0 ≤ a1 then (if a1 < (l0_4.length : Int) then (some (wrap64 (t206 * ((rd_T42 l0_4 a1).f1)), wrap64 (t207 * ((rd_T42 l0_4 a1).f2)))) else (none)) else (none)) = some (r1, r2) := H
 have A3 := aM A30
 clear A30
 by_cases c4 : 0 ≤ a1
 ·rw [if_pos c4] at H
  have c4b0 : decide (0 ≤ a1) = true := decide_eq_true c4
  clear c4
  by_cases c5 : a1 < (l0_4.length : Int)
  ·rw [if_pos c5] at H
   have c5b0 : decide (a1 < (l0_4.length : Int)) = true := decide_eq_true c5
   clear c5
   simp only [Option.some.injEq, Prod.mk.injEq] at H
   obtain ⟨rfl, rfl⟩ := H
   go_enter Try.func95, Try.ntmps95
   repeat (go_wp2_with (first | ((with_reducible refine gate_dst (N := 2) rfl ?_); refine box_event ?hg (N := 2) ?hd (cs := #[.int .i64 a0_0, .int .i64 a0_1, .int .i64 a0_2, .int .i64 a0_3, .slice A0_4 l0_4.length c0_4]) (t := 45) ?hr ?_; (case hd => rfl); (case hg => rfl); (case hr => first | (go_simp; done) | (go_simp; rfl)); intro gb205 hg w6 hbox hb; have BK205 := aM hbox; have GW205 := aM (zG hg : w.heap.size ≤ gb205); have GE205 := aM (zG hg : w.heap.size ≤ gb205); replace HB := cH HB hb; clear hb hbox hg; obtain ⟨hcz7_0, hcz7_1, hcz7_2, hcz7_3, hcz7_4⟩ := kk5 BK205; obtain ⟨hfz7_0, hfz7_1, hfz7_2, hfz7_3, hfz7_4⟩ := kg5 BK205) | (go_at_call 128; (with_reducible refine (spec_l04Units.calls k a0_0 a0_1 a0_2 a0_3 _ _ l0_4 t206 t207 _ ?side1 ?side2 A3.out).mono ?_); (case side1 => exact zC (Kd.C_below HR0_4.out HB.out)); (case side2 => exact HC0_4.out); rintro e w8 ⟨rfl, hb⟩; replace BK205 := cB BK205 hb; replace HB := cH HB hb; (try clear hb); obtain ⟨hcz9_0, hcz9_1, hcz9_2, hcz9_3, hcz9_4⟩ := kk5 BK205; obtain ⟨hfz9_0, hfz9_1, hfz9_2, hfz9_3, hfz9_4⟩ := kg5 BK205; have p208 : 0 ≤ (a1 : Int) := zA; have q208 : a1 < (l0_4.length : Int) := zA; obtain ⟨ad208, e208, hx208_0, hx208_1, hx208_2, hx208_3⟩ := at_T42 HR0_4.out a1 p208 q208; cases e208; replace hx208_0 := hX HB hx208_0; replace hx208_1 := hX HB hx208_1; replace hx208_2 := hX HB hx208_2; replace hx208_3 := hX HB hx208_3; replace p208 := eq_true p208; replace q208 := eq_true q208; have p209 : 0 ≤ (a1 : Int) := zA; have q209 : a1 < (l0_4.length : Int) := zA; obtain ⟨ad209, e209, hx209_0, hx209_1, hx209_2, hx209_3⟩ := at_T42 HR0_4.out a1 p209 q209; obtain rfl : ad208 = ad209 := (by injection e209); replace hx209_0 := hX HB hx209_0; replace hx209_1 := hX HB hx209_1; replace hx209_2 := hX HB hx209_2; replace hx209_3 := hX HB hx209_3; replace p209 := eq_true p209; replace q209 := eq_true q209)); go_quiet (fail))
   try go_wp2_with (first | ((with_reducible refine gate_dst (N := 2) rfl ?_); refine box_event ?hg (N := 2) ?hd (cs := #[.int .i64 a0_0, .int .i64 a0_1, .int .i64 a0_2, .int .i64 a0_3, .slice A0_4 l0_4.length c0_4]) (t := 45) ?hr ?_; (case hd => rfl); (case hg => rfl); (case hr => first | (go_simp; done) | (go_simp; rfl)); intro gb205 hg w6 hbox hb; have BK205 := aM hbox; have GW205 := aM (zG hg : w.heap.size ≤ gb205); have GE205 := aM (zG hg : w.heap.size ≤ gb205); replace HB := cH HB hb; clear hb hbox hg; obtain ⟨hcz7_0, hcz7_1, hcz7_2, hcz7_3, hcz7_4⟩ := kk5 BK205; obtain ⟨hfz7_0, hfz7_1, hfz7_2, hfz7_3, hfz7_4⟩ := kg5 BK205) | (go_at_call 128; (with_reducible refine (spec_l04Units.calls k a0_0 a0_1 a0_2 a0_3 _ _ l0_4 t206 t207 _ ?side1 ?side2 A3.out).mono ?_); (case side1 => exact zC (Kd.C_below HR0_4.out HB.out)); (case side2 => exact HC0_4.out); rintro e w8 ⟨rfl, hb⟩; replace BK205 := cB BK205 hb; replace HB := cH HB hb; (try clear hb); obtain ⟨hcz9_0, hcz9_1, hcz9_2, hcz9_3, hcz9_4⟩ := kk5 BK205; obtain ⟨hfz9_0, hfz9_1, hfz9_2, hfz9_3, hfz9_4⟩ := kg5 BK205; have p208 : 0 ≤ (a1 : Int) := zA; have q208 : a1 < (l0_4.length : Int) := zA; obtain ⟨ad208, e208, hx208_0, hx208_1, hx208_2, hx208_3⟩ := at_T42 HR0_4.out a1 p208 q208; cases e208; replace hx208_0 := hX HB hx208_0; replace hx208_1 := hX HB hx208_1; replace hx208_2 := hX HB hx208_2; replace hx208_3 := hX HB hx208_3; replace p208 := eq_true p208; replace q208 := eq_true q208; have p209 : 0 ≤ (a1 : Int) := zA; have q209 : a1 < (l0_4.length : Int) := zA; obtain ⟨ad209, e209, hx209_0, hx209_1, hx209_2, hx209_3⟩ := at_T42 HR0_4.out a1 p209 q209; obtain rfl : ad208 = ad209 := (by injection e209); replace hx209_0 := hX HB hx209_0; replace hx209_1 := hX HB hx209_1; replace hx209_2 := hX HB hx209_2; replace hx209_3 := hX HB hx209_3; replace p209 := eq_true p209; replace q209 := eq_true q209))
   go_ret2
   exact ⟨zR, zH⟩
  ·rw [if_neg c5] at H
   exact absurd H (by simp)
 ·rw [if_neg c4] at H
  exact absurd H (by simp)

def blocksI (w h : Int) (l : List S42) (c : Int) : Int × Int := (wrap64 ((unitsI w h l).1 * (rd_T42 l c).f1), wrap64 ((unitsI w h l).2 * (rd_T42 l c).f2))
theorem sBlocks_f {p w h r : Int} {l : List S42} (hl : l.length ≤ 1048576) (hb : frameB p w h r l = true) (c : Int) (h0 : 0 ≤ c) (h1 : c < (l.length : Int)) : Ev (fun k => spec_l04Blocks.f k p w h r l c) (blocksI w h l c) := by
  unfold spec_l04Blocks.f
  exact evBind (sUnits_f hl hb) (evPos h0 (evPos h1 (Ev.now _)))

/-! ### spec_l04Size: function 145 -/
def spec_l04Size.f (k : Nat) (a0_0 : Int) (a0_1 : Int) (a0_2 : Int) (a0_3 : Int) (l0_4 : List (S42)) (a1 : Int) : Option (Int × Int) := (spec_l04Most.f k a0_0 a0_1 a0_2 a0_3 l0_4).bind fun bt211 => (if 0 ≤ a1 then (if a1 < (l0_4.length : Int) then ((spec_l04Up.f (wrap64 (a0_1 * ((rd_T42 l0_4 a1).f1))) bt211.1).bind fun t214 => ((spec_l04Up.f (wrap64 (a0_2 * ((rd_T42 l0_4 a1).f2))) bt211.2).bind fun t216 => (some (t214, t216)))) else (none)) else (none))
set_option maxHeartbeats 8000000 in
set_option maxRecDepth 100000 in
theorem spec_l04Size.calls (k : Nat) (a0_0 : Int) (a0_1 : Int) (a0_2 : Int) (a0_3 : Int) (A0_4 : Option Addr) (c0_4 : Nat) (l0_4 : List (S42)) (a1 : Int) (r1 : Int) (r2 : Int) (w : World) (hr0_4 : Kd.C k42 w A0_4 l0_4.length l0_4) (hc0_4 : l0_4.length ≤ c0_4) (h : spec_l04Size.f k a0_0 a0_1 a0_2 a0_3 l0_4 a1 = some (r1, r2)) :
  Calls Try.prog 145 #[.agg #[.int .i64 a0_0, .int .i64 a0_1, .int .i64 a0_2, .int .i64 a0_3, .slice A0_4 l0_4.length c0_4], .int .i64 a1] w fun e w' => e = .returned (.tuple #[.int .i64 r1, .int .i64 r2]) ∧ Below w.heap.size w w' := by
 have hu45 := Try.underlying45
 have HR0_4 := aM hr0_4
 have HC0_4 := aM hc0_4
 clear hr0_4 hc0_4
 have HB := aM (Below.refl w.heap.size w)
 have H : ((spec_l04Most.f k a0_0 a0_1 a0_2 a0_3 l0_4).bind fun bt211 => (if 0 ≤ a1 then (if a1 < (l0_4.length : Int) then ((spec_l04Up.f (wrap64 (a0_1 * ((rd_T42 l0_4 a1).f1))) bt211.1).bind fun t214 => ((spec_l04Up.f (wrap64 (a0_2 * ((rd_T42 l0_4 a1).f2))) bt211.2).bind fun t216 => (some (t214, t216)))) else (none)) else (none))) = some (r1, r2) := h
 clear h
 replace H := oB H
 obtain ⟨⟨t211, t212⟩, A30, H⟩ := H
 replace H : (if 0 ≤ a1 then (if a1 < (l0_4.length : Int) then ((spec_l04Up.f (wrap64 (a0_1 * ((rd_T42 l0_4 a1).f1))) t211).bind fun t214 => ((spec_l04Up.f (wrap64 (a0_2 * ((rd_T42 l0_4 a1).f2))) t212).bind fun t216 => (some (t214, t216)))) else (none)) else (none)) = some (r1, r2) := H
 have A3 := aM A30
 clear A30
 by_cases c4 : 0 ≤ a1
 ·rw [if_pos c4] at H
  have c4b0 : decide (0 ≤ a1) = true := decide_eq_true c4
  clear c4
  by_cases c5 : a1 < (l0_4.length : Int)
  ·rw [if_pos c5] at H
   have c5b0 : decide (a1 < (l0_4.length : Int)) = true := decide_eq_true c5
   clear c5
   obtain ⟨t214, A6, H⟩ := oH H
   obtain ⟨t216, A7, H⟩ := oH H
   simp only [Option.some.injEq, Prod.mk.injEq] at H
   obtain ⟨rfl, rfl⟩ := H
   go_enter Try.func145, Try.ntmps145
   go_wp2_with (first | ((with_reducible refine gate_dst (N := 2) rfl ?_); refine box_event ?hg (N := 2) ?hd (cs := #[.int .i64 a0_0, .int .i64 a0_1, .int .i64 a0_2, .int .i64 a0_3, .slice A0_4 l0_4.length c0_4]) (t := 45) ?hr ?_; (case hd => rfl); (case hg => rfl); (case hr => first | (go_simp; done) | (go_simp; rfl)); intro gb210 hg w8 hbox hb; have BK210 := aM hbox; have GW210 := aM (zG hg : w.heap.size ≤ gb210); have GE210 := aM (zG hg : w.heap.size ≤ gb210); replace HB := cH HB hb; clear hb hbox hg; obtain ⟨hcz9_0, hcz9_1, hcz9_2, hcz9_3, hcz9_4⟩ := kk5 BK210; obtain ⟨hfz9_0, hfz9_1, hfz9_2, hfz9_3, hfz9_4⟩ := kg5 BK210) | (go_at_call 143; (with_reducible refine (spec_l04Most.calls k a0_0 a0_1 a0_2 a0_3 _ _ l0_4 t211 t212 _ ?side1 ?side2 A3.out).mono ?_); (case side1 => exact zC (Kd.C_below HR0_4.out HB.out)); (case side2 => exact HC0_4.out); rintro e w10 ⟨rfl, hb⟩; replace BK210 := cB BK210 hb; replace HB := cH HB hb; (try clear hb); obtain ⟨hcz11_0, hcz11_1, hcz11_2, hcz11_3, hcz11_4⟩ := kk5 BK210; obtain ⟨hfz11_0, hfz11_1, hfz11_2, hfz11_3, hfz11_4⟩ := kg5 BK210; have p213 : 0 ≤ (a1 : Int) := zA; have q213 : a1 < (l0_4.length : Int) := zA; obtain ⟨ad213, e213, hx213_0, hx213_1, hx213_2, hx213_3⟩ := at_T42 HR0_4.out a1 p213 q213; cases e213; replace hx213_0 := hX HB hx213_0; replace hx213_1 := hX HB hx213_1; replace hx213_2 := hX HB hx213_2; replace hx213_3 := hX HB hx213_3; replace p213 := eq_true p213; replace q213 := eq_true q213) | (go_at_call 144; (with_reducible refine (spec_l04Up.calls (wrap64 (a0_1 * ((rd_T42 l0_4 a1).f1))) t211 t214 _ A6.out).mono ?_); rintro e w' ⟨rfl, ⟨nd, rfl⟩⟩; (try exact zD); have p215 : 0 ≤ (a1 : Int) := zA; have q215 : a1 < (l0_4.length : Int) := zA; obtain ⟨ad215, e215, hx215_0, hx215_1, hx215_2, hx215_3⟩ := at_T42 HR0_4.out a1 p215 q215; obtain rfl : ad213 = ad215 := (by injection e215); replace hx215_0 := hX HB hx215_0; replace hx215_1 := hX HB hx215_1; replace hx215_2 := hX HB hx215_2; replace hx215_3 := hX HB hx215_3; replace p215 := eq_true p215; replace q215 := eq_true q215) | (go_at_call 144; (with_reducible refine (spec_l04Up.calls (wrap64 (a0_2 * ((rd_T42 l0_4 a1).f2))) t212 t216 _ A7.out).mono ?_); rintro e w' ⟨rfl, ⟨nd, rfl⟩⟩; (try exact zD)))
   try (have p215 : 0 ≤ (a1 : Int) := zA; have q215 : a1 < (l0_4.length : Int) := zA; obtain ⟨ad215, e215, hx215_0, hx215_1, hx215_2, hx215_3⟩ := at_T42 HR0_4.out a1 p215 q215; obtain rfl : ad213 = ad215 := (by injection e215); replace hx215_0 := hX HB hx215_0; replace hx215_1 := hX HB hx215_1; replace hx215_2 := hX HB hx215_2; replace hx215_3 := hX HB hx215_3; replace p215 := eq_true p215; replace q215 := eq_true q215)
   repeat (go_quiet (first | (go_at_call 144; (first | (with_reducible refine (spec_l04Up.calls (wrap64 (a0_1 * ((rd_T42 l0_4 a1).f1))) t211 t214 _ A6.out).mono ?_) | ((simp only [i64_w]); (with_reducible refine (spec_l04Up.calls (wrap64 (a0_1 * ((rd_T42 l0_4 a1).f1))) t211 t214 _ A6.out).mono ?_)) | (refine (spec_l04Up.calls (wrap64 (a0_1 * ((rd_T42 l0_4 a1).f1))) t211 t214 _ A6.out).mono ?_)); rintro e w' ⟨rfl, ⟨nd, rfl⟩⟩; (try exact zD); all_goals (have p215 : 0 ≤ (a1 : Int) := zA; have q215 : a1 < (l0_4.length : Int) := zA; obtain ⟨ad215, e215, hx215_0, hx215_1, hx215_2, hx215_3⟩ := at_T42 HR0_4.out a1 p215 q215; obtain rfl : ad213 = ad215 := (by injection e215); replace hx215_0 := hX HB hx215_0; replace hx215_1 := hX HB hx215_1; replace hx215_2 := hX HB hx215_2; replace hx215_3 := hX HB hx215_3; replace p215 := eq_true p215; replace q215 := eq_true q215)) | (go_at_call 144; (first | (with_reducible refine (spec_l04Up.calls (wrap64 (a0_2 * ((rd_T42 l0_4 a1).f2))) t212 t216 _ A7.out).mono ?_) | ((simp only [i64_w]); (with_reducible refine (spec_l04Up.calls (wrap64 (a0_2 * ((rd_T42 l0_4 a1).f2))) t212 t216 _ A7.out).mono ?_)) | (refine (spec_l04Up.calls (wrap64 (a0_2 * ((rd_T42 l0_4 a1).f2))) t212 t216 _ A7.out).mono ?_)); rintro e w' ⟨rfl, ⟨nd, rfl⟩⟩; (try exact zD))); try go_wp2_with (first | ((with_reducible refine gate_dst (N := 2) rfl ?_); refine box_event ?hg (N := 2) ?hd (cs := #[.int .i64 a0_0, .int .i64 a0_1, .int .i64 a0_2, .int .i64 a0_3, .slice A0_4 l0_4.length c0_4]) (t := 45) ?hr ?_; (case hd => rfl); (case hg => rfl); (case hr => first | (go_simp; done) | (go_simp; rfl)); intro gb210 hg w8 hbox hb; have BK210 := aM hbox; have GW210 := aM (zG hg : w.heap.size ≤ gb210); have GE210 := aM (zG hg : w.heap.size ≤ gb210); replace HB := cH HB hb; clear hb hbox hg; obtain ⟨hcz9_0, hcz9_1, hcz9_2, hcz9_3, hcz9_4⟩ := kk5 BK210; obtain ⟨hfz9_0, hfz9_1, hfz9_2, hfz9_3, hfz9_4⟩ := kg5 BK210) | (go_at_call 143; (with_reducible refine (spec_l04Most.calls k a0_0 a0_1 a0_2 a0_3 _ _ l0_4 t211 t212 _ ?side1 ?side2 A3.out).mono ?_); (case side1 => exact zC (Kd.C_below HR0_4.out HB.out)); (case side2 => exact HC0_4.out); rintro e w10 ⟨rfl, hb⟩; replace BK210 := cB BK210 hb; replace HB := cH HB hb; (try clear hb); obtain ⟨hcz11_0, hcz11_1, hcz11_2, hcz11_3, hcz11_4⟩ := kk5 BK210; obtain ⟨hfz11_0, hfz11_1, hfz11_2, hfz11_3, hfz11_4⟩ := kg5 BK210; have p213 : 0 ≤ (a1 : Int) := zA; have q213 : a1 < (l0_4.length : Int) := zA; obtain ⟨ad213, e213, hx213_0, hx213_1, hx213_2, hx213_3⟩ := at_T42 HR0_4.out a1 p213 q213; cases e213; replace hx213_0 := hX HB hx213_0; replace hx213_1 := hX HB hx213_1; replace hx213_2 := hX HB hx213_2; replace hx213_3 := hX HB hx213_3; replace p213 := eq_true p213; replace q213 := eq_true q213) | (go_at_call 144; (first | (with_reducible refine (spec_l04Up.calls (wrap64 (a0_1 * ((rd_T42 l0_4 a1).f1))) t211 t214 _ A6.out).mono ?_) | ((simp only [i64_w]); (with_reducible refine (spec_l04Up.calls (wrap64 (a0_1 * ((rd_T42 l0_4 a1).f1))) t211 t214 _ A6.out).mono ?_)) | (refine (spec_l04Up.calls (wrap64 (a0_1 * ((rd_T42 l0_4 a1).f1))) t211 t214 _ A6.out).mono ?_)); rintro e w' ⟨rfl, ⟨nd, rfl⟩⟩; (try exact zD); all_goals (have p215 : 0 ≤ (a1 : Int) := zA; have q215 : a1 < (l0_4.length : Int) := zA; obtain ⟨ad215, e215, hx215_0, hx215_1, hx215_2, hx215_3⟩ := at_T42 HR0_4.out a1 p215 q215; obtain rfl : ad213 = ad215 := (by injection e215); replace hx215_0 := hX HB hx215_0; replace hx215_1 := hX HB hx215_1; replace hx215_2 := hX HB hx215_2; replace hx215_3 := hX HB hx215_3; replace p215 := eq_true p215; replace q215 := eq_true q215)) | (go_at_call 144; (first | (with_reducible refine (spec_l04Up.calls (wrap64 (a0_2 * ((rd_T42 l0_4 a1).f2))) t212 t216 _ A7.out).mono ?_) | ((simp only [i64_w]); (with_reducible refine (spec_l04Up.calls (wrap64 (a0_2 * ((rd_T42 l0_4 a1).f2))) t212 t216 _ A7.out).mono ?_)) | (refine (spec_l04Up.calls (wrap64 (a0_2 * ((rd_T42 l0_4 a1).f2))) t212 t216 _ A7.out).mono ?_)); rintro e w' ⟨rfl, ⟨nd, rfl⟩⟩; (try exact zD))))
   go_ret2
   exact ⟨zR, zH⟩
  ·rw [if_neg c5] at H
   exact absurd H (by simp)
 ·rw [if_neg c4] at H
  exact absurd H (by simp)

def sizeI (w h : Int) (l : List S42) (c : Int) : Int × Int := (upI (wrap64 (w * (rd_T42 l c).f1)) (mostI l).1, upI (wrap64 (h * (rd_T42 l c).f2)) (mostI l).2)
theorem sSize_f {p w h r : Int} {l : List S42} (hl : l.length ≤ 1048576) (hb : frameB p w h r l = true) (c : Int) (h0 : 0 ≤ c) (h1 : c < (l.length : Int)) : Ev (fun k => spec_l04Size.f k p w h r l c) (sizeI w h l c) := by
  obtain ⟨m1, m2⟩ := frame_most hb
  unfold spec_l04Size.f sizeI
  exact evBind (sMost_f p w h r l hl) (evPos h0 (evPos h1 (evBind (evConst (sUp_f _ _ (by omega))) (evBind (evConst (sUp_f _ _ (by omega))) (Ev.now _)))))

/-! ### spec_l11Need: function 130 -/
def spec_l11Need.f (k : Nat) (a0_0 : Int) (a0_1 : Int) (a0_2 : Int) (a0_3 : Int) (l0_4 : List (S42)) (a1 : Int) : Option (Int × Int) := (spec_l04Size.f k a0_0 a0_1 a0_2 a0_3 l0_4 a1).bind fun bt218 => ((spec_l04Up.f bt218.1 8).bind fun t220 => ((spec_l04Up.f bt218.2 8).bind fun t221 => (some (t220, t221))))
set_option maxHeartbeats 8000000 in
set_option maxRecDepth 100000 in
theorem spec_l11Need.calls (k : Nat) (a0_0 : Int) (a0_1 : Int) (a0_2 : Int) (a0_3 : Int) (A0_4 : Option Addr) (c0_4 : Nat) (l0_4 : List (S42)) (a1 : Int) (r1 : Int) (r2 : Int) (w : World) (hr0_4 : Kd.C k42 w A0_4 l0_4.length l0_4) (hc0_4 : l0_4.length ≤ c0_4) (h : spec_l11Need.f k a0_0 a0_1 a0_2 a0_3 l0_4 a1 = some (r1, r2)) :
  Calls Try.prog 130 #[.agg #[.int .i64 a0_0, .int .i64 a0_1, .int .i64 a0_2, .int .i64 a0_3, .slice A0_4 l0_4.length c0_4], .int .i64 a1] w fun e w' => e = .returned (.tuple #[.int .i64 r1, .int .i64 r2]) ∧ Below w.heap.size w w' := by
 have hu45 := Try.underlying45
 have HR0_4 := aM hr0_4
 have HC0_4 := aM hc0_4
 clear hr0_4 hc0_4
 have HB := aM (Below.refl w.heap.size w)
 have H : ((spec_l04Size.f k a0_0 a0_1 a0_2 a0_3 l0_4 a1).bind fun bt218 => ((spec_l04Up.f bt218.1 8).bind fun t220 => ((spec_l04Up.f bt218.2 8).bind fun t221 => (some (t220, t221))))) = some (r1, r2) := h
 clear h
 replace H := oB H
 obtain ⟨⟨t218, t219⟩, A30, H⟩ := H
 replace H : ((spec_l04Up.f t218 8).bind fun t220 => ((spec_l04Up.f t219 8).bind fun t221 => (some (t220, t221)))) = some (r1, r2) := H
 have A3 := aM A30
 clear A30
 obtain ⟨t220, A4, H⟩ := oH H
 obtain ⟨t221, A5, H⟩ := oH H
 simp only [Option.some.injEq, Prod.mk.injEq] at H
 obtain ⟨rfl, rfl⟩ := H
 go_enter Try.func130, Try.ntmps130
 go_wp2_with (first | ((with_reducible refine gate_dst (N := 2) rfl ?_); refine box_event ?hg (N := 2) ?hd (cs := #[.int .i64 a0_0, .int .i64 a0_1, .int .i64 a0_2, .int .i64 a0_3, .slice A0_4 l0_4.length c0_4]) (t := 45) ?hr ?_; (case hd => rfl); (case hg => rfl); (case hr => first | (go_simp; done) | (go_simp; rfl)); intro gb217 hg w6 hbox hb; have BK217 := aM hbox; have GW217 := aM (zG hg : w.heap.size ≤ gb217); have GE217 := aM (zG hg : w.heap.size ≤ gb217); replace HB := cH HB hb; clear hb hbox hg; obtain ⟨hcz7_0, hcz7_1, hcz7_2, hcz7_3, hcz7_4⟩ := kk5 BK217; obtain ⟨hfz7_0, hfz7_1, hfz7_2, hfz7_3, hfz7_4⟩ := kg5 BK217) | (go_at_call 145; (with_reducible refine (spec_l04Size.calls k a0_0 a0_1 a0_2 a0_3 _ _ l0_4 a1 t218 t219 _ ?side1 ?side2 A3.out).mono ?_); (case side1 => exact zC (Kd.C_below HR0_4.out HB.out)); (case side2 => exact HC0_4.out); rintro e w8 ⟨rfl, hb⟩; replace BK217 := cB BK217 hb; replace HB := cH HB hb; (try clear hb)) | ((with_reducible refine gate_callee (f := 144) rfl ?_); refine zGl (some 15) Try.func144 #[.int .i64 t218, .int .i64 8] ?_; (with_reducible refine (spec_l04Up.calls t218 8 t220 _ A4.out).mono ?_); rintro e w' ⟨rfl, ⟨nd, rfl⟩⟩; refine ⟨_, rfl, ?_⟩) | ((with_reducible refine gate_callee (f := 144) rfl ?_); refine zGl (some 17) Try.func144 #[.int .i64 t219, .int .i64 8] ?_; (with_reducible refine (spec_l04Up.calls t219 8 t221 _ A5.out).mono ?_); rintro e w' ⟨rfl, ⟨nd, rfl⟩⟩; refine ⟨_, rfl, ?_⟩))
 go_ret2
 exact ⟨zR, zH⟩

def needI (w h : Int) (l : List S42) (c : Int) : Int × Int := (upI (sizeI w h l c).1 8, upI (sizeI w h l c).2 8)
theorem sNeed_f {p w h r : Int} {l : List S42} (hl : l.length ≤ 1048576) (hb : frameB p w h r l = true) (c : Int) (h0 : 0 ≤ c) (h1 : c < (l.length : Int)) : Ev (fun k => spec_l11Need.f k p w h r l c) (needI w h l c) := by
  unfold spec_l11Need.f needI
  exact evBind (sSize_f hl hb c h0 h1) (evBind (evConst (sUp_f _ _ (by omega))) (evBind (evConst (sUp_f _ _ (by omega))) (Ev.now _)))

/-! ### spec_l11Hidden: function 106 -/
def spec_l11Hidden.f (k : Nat) (a0_0 : Int) (a0_1 : Int) (a0_2 : Int) (a0_3 : Int) (l0_4 : List (S42)) (a1_0 : Int) (a1_1 : Int) (a1_2 : Int) : Option (Bool) := (spec_l11Need.f k a0_0 a0_1 a0_2 a0_3 l0_4 a1_0).bind fun bt224 => (if a1_1 ≥ bt224.2 then (some true) else (some (decide (a1_2 ≥ bt224.1))))
set_option maxHeartbeats 8000000 in
set_option maxRecDepth 100000 in
theorem spec_l11Hidden.calls (k : Nat) (a0_0 : Int) (a0_1 : Int) (a0_2 : Int) (a0_3 : Int) (A0_4 : Option Addr) (c0_4 : Nat) (l0_4 : List (S42)) (a1_0 : Int) (a1_1 : Int) (a1_2 : Int) (r : Bool) (w : World) (hr0_4 : Kd.C k42 w A0_4 l0_4.length l0_4) (hc0_4 : l0_4.length ≤ c0_4) (h : spec_l11Hidden.f k a0_0 a0_1 a0_2 a0_3 l0_4 a1_0 a1_1 a1_2 = some r) :
  Calls Try.prog 106 #[.agg #[.int .i64 a0_0, .int .i64 a0_1, .int .i64 a0_2, .int .i64 a0_3, .slice A0_4 l0_4.length c0_4], .agg #[.int .i64 a1_0, .int .i64 a1_1, .int .i64 a1_2]] w fun e w' => e = .returned (.bool r) ∧ Below w.heap.size w w' := by
 have hu45 := Try.underlying45
 have hu87 := Try.underlying87
 have HR0_4 := aM hr0_4
 have HC0_4 := aM hc0_4
 clear hr0_4 hc0_4
 have HB := aM (Below.refl w.heap.size w)
 have H : ((spec_l11Need.f k a0_0 a0_1 a0_2 a0_3 l0_4 a1_0).bind fun bt224 => (if a1_1 ≥ bt224.2 then (some true) else (some (decide (a1_2 ≥ bt224.1))))) = some r := h
 clear h
 replace H := oB H
 obtain ⟨⟨t224, t225⟩, A30, H⟩ := H
 replace H : (if a1_1 ≥ t225 then (some true) else (some (decide (a1_2 ≥ t224)))) = some r := H
 have A3 := aM A30
 clear A30
 by_cases c4 : a1_1 ≥ t225
 ·rw [if_pos c4] at H
  have c4b0 : decide (t225 ≤ a1_1) = true := decide_eq_true c4
  clear c4
  obtain rfl := Option.some.inj H
  go_enter Try.func106, Try.ntmps106
  go_wp2_with (first | ((with_reducible refine gate_dst (N := 2) rfl ?_); refine box_event ?hg (N := 2) ?hd (cs := #[.int .i64 a0_0, .int .i64 a0_1, .int .i64 a0_2, .int .i64 a0_3, .slice A0_4 l0_4.length c0_4]) (t := 45) ?hr ?_; (case hd => rfl); (case hg => rfl); (case hr => first | (go_simp; done) | (go_simp; rfl)); intro gb222 hg w5 hbox hb; have BK222 := aM hbox; have GW222 := aM (zG hg : w.heap.size ≤ gb222); have GE222 := aM (zG hg : w.heap.size ≤ gb222); replace HB := cH HB hb; clear hb hbox hg) | ((with_reducible refine gate_dst (N := 3) rfl ?_); refine box_event ?hg (N := 3) ?hd (cs := #[.int .i64 a1_0, .int .i64 a1_1, .int .i64 a1_2]) (t := 87) ?hr ?_; (case hd => rfl); (case hg => rfl); (case hr => first | (go_simp; done) | (go_simp; rfl)); intro gb223 hg w6 hbox hb; have BK223 := aM hbox; have GW223 := aM (zG hg : w.heap.size ≤ gb223); have GE223 := aM (zG hg : w.heap.size ≤ gb223); replace HB := cH HB hb; have NB222_223 := aM ((zL hg BK222)); have NB223_222 := aM ((zM hg BK222)); replace BK222 := cB BK222 hb; clear hb hbox hg; have hnb7 := NB222_223.out; have hnc7 := NB223_222.out; obtain ⟨hcz8_0, hcz8_1, hcz8_2, hcz8_3, hcz8_4⟩ := kk5 BK222; obtain ⟨hfz8_0, hfz8_1, hfz8_2, hfz8_3, hfz8_4⟩ := kg5 BK222; obtain ⟨hcz9_0, hcz9_1, hcz9_2⟩ := kk3 BK223; obtain ⟨hfz9_0, hfz9_1, hfz9_2⟩ := kg3 BK223) | (go_at_call 130; (with_reducible refine (spec_l11Need.calls k a0_0 a0_1 a0_2 a0_3 _ _ l0_4 a1_0 t224 t225 _ ?side1 ?side2 A3.out).mono ?_); (case side1 => exact zC (Kd.C_below HR0_4.out HB.out)); (case side2 => exact HC0_4.out); rintro e w10 ⟨rfl, hb⟩; replace BK222 := cB BK222 hb; replace BK223 := cB BK223 hb; replace HB := cH HB hb; (try clear hb); obtain ⟨hcz11_0, hcz11_1, hcz11_2⟩ := kk3 BK223; obtain ⟨hfz11_0, hfz11_1, hfz11_2⟩ := kg3 BK223))
  go_ret
  exact ⟨zR, zH⟩
 ·rw [if_neg c4] at H
  have c4b0 : decide (t225 ≤ a1_1) = false := decide_eq_false c4
  clear c4
  obtain rfl := Option.some.inj H
  go_enter Try.func106, Try.ntmps106
  go_wp2_with (first | ((with_reducible refine gate_dst (N := 2) rfl ?_); refine box_event ?hg (N := 2) ?hd (cs := #[.int .i64 a0_0, .int .i64 a0_1, .int .i64 a0_2, .int .i64 a0_3, .slice A0_4 l0_4.length c0_4]) (t := 45) ?hr ?_; (case hd => rfl); (case hg => rfl); (case hr => first | (go_simp; done) | (go_simp; rfl)); intro gb222 hg w12 hbox hb; have BK222 := aM hbox; have GW222 := aM (zG hg : w.heap.size ≤ gb222); have GE222 := aM (zG hg : w.heap.size ≤ gb222); replace HB := cH HB hb; clear hb hbox hg) | ((with_reducible refine gate_dst (N := 3) rfl ?_); refine box_event ?hg (N := 3) ?hd (cs := #[.int .i64 a1_0, .int .i64 a1_1, .int .i64 a1_2]) (t := 87) ?hr ?_; (case hd => rfl); (case hg => rfl); (case hr => first | (go_simp; done) | (go_simp; rfl)); intro gb223 hg w13 hbox hb; have BK223 := aM hbox; have GW223 := aM (zG hg : w.heap.size ≤ gb223); have GE223 := aM (zG hg : w.heap.size ≤ gb223); replace HB := cH HB hb; have NB222_223 := aM ((zL hg BK222)); have NB223_222 := aM ((zM hg BK222)); replace BK222 := cB BK222 hb; clear hb hbox hg; have hnb14 := NB222_223.out; have hnc14 := NB223_222.out; obtain ⟨hcz15_0, hcz15_1, hcz15_2, hcz15_3, hcz15_4⟩ := kk5 BK222; obtain ⟨hfz15_0, hfz15_1, hfz15_2, hfz15_3, hfz15_4⟩ := kg5 BK222; obtain ⟨hcz16_0, hcz16_1, hcz16_2⟩ := kk3 BK223; obtain ⟨hfz16_0, hfz16_1, hfz16_2⟩ := kg3 BK223) | (go_at_call 130; (with_reducible refine (spec_l11Need.calls k a0_0 a0_1 a0_2 a0_3 _ _ l0_4 a1_0 t224 t225 _ ?side1 ?side2 A3.out).mono ?_); (case side1 => exact zC (Kd.C_below HR0_4.out HB.out)); (case side2 => exact HC0_4.out); rintro e w17 ⟨rfl, hb⟩; replace BK222 := cB BK222 hb; replace BK223 := cB BK223 hb; replace HB := cH HB hb; (try clear hb); obtain ⟨hcz18_0, hcz18_1, hcz18_2⟩ := kk3 BK223; obtain ⟨hfz18_0, hfz18_1, hfz18_2⟩ := kg3 BK223))
  go_ret
  exact ⟨zR, zH⟩

def hiddenB (w h : Int) (l : List S42) (c row col : Int) : Bool := decide (row ≥ (needI w h l c).2) || decide (col ≥ (needI w h l c).1)
theorem sHidden_f {p w h r : Int} {l : List S42} (hl : l.length ≤ 1048576) (hb : frameB p w h r l = true) (c row col : Int) (h0 : 0 ≤ c) (h1 : c < (l.length : Int)) : Ev (fun k => spec_l11Hidden.f k p w h r l c row col) (hiddenB w h l c row col) := by
  unfold spec_l11Hidden.f hiddenB
  refine evBind (sNeed_f hl hb c h0 h1) (evIf (fun hh => ?_) (fun hh => ?_))
  · rw [decide_eq_true hh, Bool.true_or]; exact Ev.now _
  · rw [decide_eq_false hh, Bool.false_or]; exact Ev.now _

/-! ### spec_l11Zero: function 107 -/
def spec_l11Zero.l0 : Nat → List Int → Int → Option (Bool)
  | 0, _, _ => none
  | k + 1, x0, x3 => if x3 < (x0.length : Int) then (if 0 ≤ x3 then (if (rd x0 x3) = 0 then (spec_l11Zero.l0 k x0 (wrap64 (x3 + 1))) else (some false)) else (none)) else (some true)
def spec_l11Zero.f (k : Nat) (l0 : List Int) : Option (Bool) := spec_l11Zero.l0 k l0 0
set_option maxHeartbeats 8000000 in
set_option maxRecDepth 100000 in
theorem spec_l11Zero.calls (k : Nat) (A0 : Option Addr) (c0 : Nat) (l0 : List Int) (r : Bool) (w : World) (hr0 : Kd.C (Kd.int .i64) w A0 l0.length l0) (hc0 : l0.length ≤ c0) (h : spec_l11Zero.f k l0 = some r) :
  Calls Try.prog 107 #[.slice A0 l0.length c0] w fun e w' => e = .returned (.bool r) ∧ Drawn0 w w' := by
 have HR0 := aM hr0
 have HC0 := aM hc0
 clear hr0 hc0
 have H : (spec_l11Zero.l0 k l0 0) = some r := h
 clear h
 have H' := aM H
 clear H
 go_enter Try.func107, Try.ntmps107
 go_wp2
 go_loopg [3] k (fun kq v3 w' => ∃ (x3_1 : Int), v3 = .int .i64 x3_1 ∧ Aside0 (spec_l11Zero.l0 kq l0 x3_1 = some r) ∧ Aside0 (kq ≤ k) ∧ Drawn0 w w')
 case atStart => exact ⟨(0), zS, H', ⟨Nat.le_refl _⟩, by repeat (first | exact Drawn0.refl _ | apply Drawn0.step)⟩
 case round =>
  clear H'
  obtain ⟨x3_1, rfl, HA, HK1, ⟨m1, rfl⟩⟩ := hrel
  cases gk with
  | zero => exact absurd HA.out (by simp [spec_l11Zero.l0])
  | succ k1 =>
   have H := HA.out
   clear HA
   simp only [spec_l11Zero.l0] at H
   by_cases c2 : x3_1 < (l0.length : Int)
   ·rw [if_pos c2] at H
    have c2b0 : decide (x3_1 < (l0.length : Int)) = true := decide_eq_true c2
    clear c2
    by_cases c3 : 0 ≤ x3_1
    ·rw [if_pos c3] at H
     have c3b0 : decide (0 ≤ x3_1) = true := decide_eq_true c3
     clear c3
     by_cases c4 : (rd l0 x3_1) = 0
     ·rw [if_pos c4] at H
      have c4b0 : ((rd l0 x3_1) == 0) = true := beq_iff_eq.mpr c4
      have c4b1 : ((rd l0 x3_1) != 0) = false := bne_eq_false_iff_eq.mpr c4
      clear c4
      have H' := aM H
      clear H
      have p226 : 0 ≤ (x3_1 : Int) := zA
      have q226 : x3_1 < (l0.length : Int) := zA
      obtain ⟨ad226, e226, hx226_0⟩ := Kd.at_int HR0.out x3_1 p226 q226
      cases e226
      replace p226 := eq_true p226
      replace q226 := eq_true q226
      go_wp2
      go_roundg k1
      case measure => have := HK1.out; omega
      case rel => exact ⟨(wrap64 (x3_1 + 1)), zS, H', ⟨by have := HK1.out; omega⟩, by repeat (first | exact Drawn0.refl _ | apply Drawn0.step)⟩
     ·rw [if_neg c4] at H
      have c4b0 : ((rd l0 x3_1) == 0) = false := beq_eq_false_iff_ne.mpr c4
      have c4b1 : ((rd l0 x3_1) != 0) = true := bne_iff_ne.mpr c4
      obtain rfl := Option.some.inj H
      have p226 : 0 ≤ (x3_1 : Int) := zA
      have q226 : x3_1 < (l0.length : Int) := zA
      obtain ⟨ad226, e226, hx226_0⟩ := Kd.at_int HR0.out x3_1 p226 q226
      cases e226
      replace p226 := eq_true p226
      replace q226 := eq_true q226
      go_wp2
      go_ret
      exact ⟨by first | rfl | (simp; done) | (simp [*]; done), by repeat (first | exact Drawn0.refl _ | apply Drawn0.step)⟩
    ·rw [if_neg c3] at H
     exact absurd H (by simp)
   ·rw [if_neg c2] at H
    have c2b0 : decide (x3_1 < (l0.length : Int)) = false := decide_eq_false c2
    clear c2
    obtain rfl := Option.some.inj H
    go_wp2
    go_ret
    exact ⟨by first | rfl | (simp; done) | (simp [*]; done), by repeat (first | exact Drawn0.refl _ | apply Drawn0.step)⟩

theorem zeroR_drop (l : List Int) : ∀ (d i : Nat), i + d = l.length → l.length ≤ 1048576 → Ev (fun k => spec_l11Zero.l0 k l i) (allR (l.drop i) 0 0) := by
  intro d
  induction d with
  | zero =>
    intro i hi hl
    refine Ev.step (fun k => by rw [spec_l11Zero.l0]) ?_
    rw [List.drop_eq_nil_of_le (by omega)]
    exact evNeg (by omega) (Ev.now _)
  | succ d ih =>
    intro i hi hl
    have h1 : i < l.length := by omega
    refine Ev.step (fun k => by rw [spec_l11Zero.l0]) (evPos (by omega) (evPos (by omega) ?_))
    rw [drop_get h1, rd_nat h1]
    simp only [allR, List.all_cons]
    refine evIf (fun hz => ?_) (fun hz => ?_)
    · rw [show inR l[i] 0 0 = true from inR_iff.2 (by omega), Bool.true_and, w64 (by omega) (by omega)]
      exact ih (i + 1) (by omega) hl
    · rw [show inR l[i] 0 0 = false from Bool.eq_false_iff.2 (fun h => hz (by have := inR_iff.1 h; omega)), Bool.false_and]
      exact Ev.now _
theorem sZero_f (l : List Int) (hl : l.length ≤ 1048576) : Ev (fun k => spec_l11Zero.f k l) (allR l 0 0) := by
  have := zeroR_drop l l.length 0 (by omega) hl
  simpa [spec_l11Zero.f] using this

end Go.Proofs.Ythajjjpblkhmmaa.CB
