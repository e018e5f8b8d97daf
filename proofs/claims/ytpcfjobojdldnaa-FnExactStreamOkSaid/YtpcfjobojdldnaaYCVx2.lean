/- Functions that a law of this seat reaches: written by a program of this session (wip/xprint.py), and by hand. -/
import Derived.Test.YtpcfjobojdldnaaYMac
import Derived.Test.YtpcfjobojdldnaaYCVx0
import Derived.Test.YtpcfjobojdldnaaYCVx1
namespace Go.Proofs.Ytpcfjobojdldnaa.CV
open Go.RowKit Go.Proofs.Ytpcfjobojdldnaa.B Go.Proofs.YtpcfjobojdldnaaW.PrintWords Go.Proofs.YtpcfjobojdldnaaW.PrintLast Go.Proofs.YtpcfjobojdldnaaW.PrintMore
attribute [local go_sem] max2_int min2_int max_two min_two max_three min_three max_four min_four   -- for this text's walks alone
set_option linter.unusedVariables false
set_option linter.unusedSimpArgs false

/-! ### laws_szIntSSS: function 37 -/
def laws_szIntSSS.l0 : Nat → List (List (List Int)) → Int → Int → Option (Int)
  | 0, _, _, _ => none
  | k + 1, x0, x1, x5 => if x5 < (x0.length : Int) then (if 0 ≤ x5 then ((laws_szIntSS.f k (rd_L3 x0 x5) x1).bind fun t114 => (if t114 < 0 then (some (-1)) else (laws_szIntSSS.l0 k x0 t114 (wrap64 (x5 + 1))))) else (none)) else (some x1)
def laws_szIntSSS.f (k : Nat) (l0 : List (List (List Int))) (a1 : Int) : Option (Int) := if (wrap64 (a1 - (l0.length : Int))) < 0 then (some (-1)) else (laws_szIntSSS.l0 k l0 (wrap64 (a1 - (l0.length : Int))) 0)
theorem laws_szIntSSS.mono_l : ∀ k, (∀ y0 y1 y2, LeO (laws_szIntSSS.l0 k y0 y1 y2) (laws_szIntSSS.l0 (k + 1) y0 y1 y2))
 | 0 => fun _ _ _ r h => by simp [laws_szIntSSS.l0] at h
 | k + 1 => by
  have ih0 := laws_szIntSSS.mono_l k
  ·intro y0 y1 y2
   unfold laws_szIntSSS.l0
   repeat' first
   | (with_reducible exact ih0 _ _ _)
   | (with_reducible exact laws_szIntSS.mono _ _ _)
   | (with_reducible exact LeO.refl _)
   | (with_reducible exact LeO.none _)
   | (with_reducible refine LeO.ite ?_ ?_)
   | (with_reducible refine LeO.bind ?_ (fun _ => ?_))
   | exact ih0 _ _ _
   | exact laws_szIntSS.mono _ _ _
   | exact LeO.none _
   | refine LeO.ite ?_ ?_
   | refine LeO.bind ?_ (fun _ => ?_)
theorem laws_szIntSSS.mono : ∀ a0 a1 k, LeO (laws_szIntSSS.f k a0 a1) (laws_szIntSSS.f (k + 1) a0 a1) := by
 intro a0 a1 k
 have ih0 := laws_szIntSSS.mono_l k
 unfold laws_szIntSSS.f
 repeat' first
   | (with_reducible exact ih0 _ _ _)
   | (with_reducible exact laws_szIntSS.mono _ _ _)
   | (with_reducible exact LeO.refl _)
   | (with_reducible exact LeO.none _)
   | (with_reducible refine LeO.ite ?_ ?_)
   | (with_reducible refine LeO.bind ?_ (fun _ => ?_))
   | exact ih0 _ _ _
   | exact laws_szIntSS.mono _ _ _
   | exact LeO.none _
   | refine LeO.ite ?_ ?_
   | refine LeO.bind ?_ (fun _ => ?_)
set_option maxHeartbeats 8000000 in
set_option maxRecDepth 100000 in
theorem laws_szIntSSS.calls (k : Nat) (A0 : Option Addr) (c0 : Nat) (l0 : List (List (List Int))) (a1 : Int) (r : Int) (w : World) (hr0 : Kd.C (Kd.slice 55 (Kd.slice 3 (Kd.int .i64))) w A0 l0.length l0) (hc0 : l0.length ≤ c0) (h : laws_szIntSSS.f k l0 a1 = some r) :
  Calls Try.prog 37 #[.slice A0 l0.length c0, .int .i64 a1] w fun e w' => e = .returned (.int .i64 r) ∧ Drawn0 w w' := by
 have HR0 := aM hr0
 have HC0 := aM hc0
 clear hr0 hc0
 have H : (if (wrap64 (a1 - (l0.length : Int))) < 0 then (some (-1)) else (laws_szIntSSS.l0 k l0 (wrap64 (a1 - (l0.length : Int))) 0)) = some r := h
 clear h
 by_cases c3 : (wrap64 (a1 - (l0.length : Int))) < 0
 ·rw [if_pos c3] at H
  have c3b0 : decide ((wrap64 (a1 - (l0.length : Int))) < 0) = true := decide_eq_true c3
  clear c3
  obtain rfl := Option.some.inj H
  go_enter Try.func37, Try.ntmps37
  go_wp2
  go_ret
  exact ⟨by first | rfl | (simp; done) | (simp [*]; done), by repeat (first | exact Drawn0.refl _ | apply Drawn0.step)⟩
 ·rw [if_neg c3] at H
  have c3b0 : decide ((wrap64 (a1 - (l0.length : Int))) < 0) = false := decide_eq_false c3
  clear c3
  have H' := aM H
  clear H
  go_enter Try.func37, Try.ntmps37
  go_wp2
  go_loopg [1, 5] k (fun kq v1 v5 w' => ∃ (x1_1 : Int) (x5_1 : Int), v1 = .int .i64 x1_1 ∧ v5 = .int .i64 x5_1 ∧ Aside0 (laws_szIntSSS.l0 kq l0 x1_1 x5_1 = some r) ∧ Aside0 (kq ≤ k) ∧ Drawn0 w w')
  case atStart => exact ⟨(wrap64 (a1 - (l0.length : Int))), (0), zS, zS, H', ⟨Nat.le_refl _⟩, by repeat (first | exact Drawn0.refl _ | apply Drawn0.step)⟩
  case round =>
   clear H'
   try clear c3b0
   obtain ⟨x1_1, x5_1, rfl, rfl, HA, HK1, ⟨m1, rfl⟩⟩ := hrel
   cases gk with
   | zero => exact absurd HA.out (by simp [laws_szIntSSS.l0])
   | succ k1 =>
    have H := HA.out
    clear HA
    simp only [laws_szIntSSS.l0] at H
    by_cases c4 : x5_1 < (l0.length : Int)
    ·rw [if_pos c4] at H
     have c4b0 : decide (x5_1 < (l0.length : Int)) = true := decide_eq_true c4
     clear c4
     by_cases c5 : 0 ≤ x5_1
     ·rw [if_pos c5] at H
      have c5b0 : decide (0 ≤ x5_1) = true := decide_eq_true c5
      clear c5
      obtain ⟨t114, A6, H⟩ := oH H
      by_cases c7 : t114 < 0
      ·rw [if_pos c7] at H
       have c7b0 : decide (t114 < 0) = true := decide_eq_true c7
       clear c7
       obtain rfl := Option.some.inj H
       have p113 : 0 ≤ (x5_1 : Int) := zA
       have q113 : x5_1 < (l0.length : Int) := zA
       obtain ⟨ad113, A113_0, c113_0, e113, hx113_0, hl113_0, hi113_0⟩ := at_L3 HR0.out x5_1 p113 q113
       cases e113
       have HR113_0 := aM hi113_0
       have HC113_0 := aM hl113_0
       clear hi113_0 hl113_0
       replace p113 := eq_true p113
       replace q113 := eq_true q113
       go_wp2_with (first | (go_at_call 10; (with_reducible refine (laws_szIntSS.calls k1 _ _ (rd_L3 l0 x5_1) x1_1 t114 _ ?side1 ?side2 A6.out).mono ?_); (case side1 => exact zC HR113_0.out); (case side2 => exact HC113_0.out); rintro e w' ⟨rfl, ⟨nd, rfl⟩⟩))
       go_ret
       exact ⟨by first | rfl | (simp; done) | (simp [*]; done), by repeat (first | exact Drawn0.refl _ | apply Drawn0.step)⟩
      ·rw [if_neg c7] at H
       have c7b0 : decide (t114 < 0) = false := decide_eq_false c7
       clear c7
       have H' := aM H
       clear H
       have p113 : 0 ≤ (x5_1 : Int) := zA
       have q113 : x5_1 < (l0.length : Int) := zA
       obtain ⟨ad113, A113_0, c113_0, e113, hx113_0, hl113_0, hi113_0⟩ := at_L3 HR0.out x5_1 p113 q113
       cases e113
       have HR113_0 := aM hi113_0
       have HC113_0 := aM hl113_0
       clear hi113_0 hl113_0
       replace p113 := eq_true p113
       replace q113 := eq_true q113
       go_wp2_with (first | (go_at_call 10; (with_reducible refine (laws_szIntSS.calls k1 _ _ (rd_L3 l0 x5_1) x1_1 t114 _ ?side1 ?side2 A6.out).mono ?_); (case side1 => exact zC HR113_0.out); (case side2 => exact HC113_0.out); rintro e w' ⟨rfl, ⟨nd, rfl⟩⟩))
       go_roundg k1
       case measure => have := HK1.out; omega
       case rel => exact ⟨(t114), (wrap64 (x5_1 + 1)), zS, zS, H', ⟨by have := HK1.out; omega⟩, by repeat (first | exact Drawn0.refl _ | apply Drawn0.step)⟩
     ·rw [if_neg c5] at H
      exact absurd H (by simp)
    ·rw [if_neg c4] at H
     have c4b0 : decide (x5_1 < (l0.length : Int)) = false := decide_eq_false c4
     clear c4
     obtain rfl := Option.some.inj H
     go_wp2
     go_ret
     exact ⟨by first | rfl | (simp; done) | (simp [*]; done), by repeat (first | exact Drawn0.refl _ | apply Drawn0.step)⟩

theorem szIntSSS_l0 (l : List (List (List Int))) (hl : l.length ≤ 1152921504606846976) (hx : ∀ x ∈ l, x.length ≤ 9223372036854775807 ∧ ∀ y ∈ x, y.length ≤ 9223372036854775807) : ∀ (d i : Nat) (a : Int), i + d = l.length → 0 ≤ a → a ≤ 1152921504606846976 →
    ∃ r, Ev (fun k => laws_szIntSSS.l0 k l a i) r ∧ (0 ≤ r → r ≤ a ∧ ∀ x ∈ l.drop i, BndS a x) := by
  intro d
  induction d with
  | zero =>
    intro i a hi h0 h1
    refine ⟨a, Ev.step (fun k => by rw [laws_szIntSSS.l0]) (evNeg (by omega) (Ev.now _)), fun _ => ⟨by omega, ?_⟩⟩
    rw [List.drop_eq_nil_of_le (by omega)]
    simp
  | succ d ih =>
    intro i a hi h0 h1
    have hlt : i < l.length := by omega
    have hg := hx _ (List.getElem_mem hlt)
    obtain ⟨r0, hr0, hq0⟩ := szIntSS_f l[i] a h0 h1 hg.1 hg.2
    by_cases hc : r0 < 0
    · refine ⟨-1, Ev.step (fun k => by rw [laws_szIntSSS.l0]) (evPos (by omega) (evPos (by omega) ?_)), fun h => by omega⟩
      rw [rdSSS_nat hlt]
      exact evBind hr0 (evPos hc (Ev.now _))
    · have he := hq0 (by omega)
      obtain ⟨r, hr, hr2⟩ := ih (i + 1) r0 (by omega) (by omega) (by omega)
      refine ⟨r, Ev.step (fun k => by rw [laws_szIntSSS.l0]) (evPos (by omega) (evPos (by omega) ?_)), fun h => ?_⟩
      · rw [rdSSS_nat hlt]
        refine evBind hr0 (evNeg hc ?_)
        rw [show (i : Int) + 1 = ((i + 1 : Nat) : Int) from by omega, w64n (by omega)]
        exact hr
      · obtain ⟨h3, h4⟩ := hr2 h
        refine ⟨by omega, fun x hxm => ?_⟩
        rw [List.drop_eq_getElem_cons hlt] at hxm
        rcases List.mem_cons.1 hxm with rfl | hxm
        · exact ⟨by omega, fun y hy => by have := tot_mem hy; omega⟩
        · have := h4 x hxm
          exact ⟨by have := this.1; omega, fun y hy => by have := this.2 y hy; omega⟩
theorem szIntSSS_f (l : List (List (List Int))) (a : Int) (h0 : 0 ≤ a) (h1 : a ≤ 1048576) (hl : l.length ≤ 9223372036854775807) (hx : ∀ x ∈ l, x.length ≤ 9223372036854775807 ∧ ∀ y ∈ x, y.length ≤ 9223372036854775807) :
    ∃ r, Ev (fun k => laws_szIntSSS.f k l a) r ∧ (0 ≤ r → r ≤ a ∧ (l.length : Int) ≤ 1048576 ∧ ∀ x ∈ l, BndS 1048576 x) := by
  unfold laws_szIntSSS.f
  rw [w64 (by omega) (by omega)]
  by_cases hc : a - (l.length : Int) < 0
  · exact ⟨-1, evPos hc (Ev.now _), fun h => by omega⟩
  · obtain ⟨r, hr, hr2⟩ := szIntSSS_l0 l (by omega) hx l.length 0 (a - l.length) (by omega) (by omega) (by omega)
    refine ⟨r, evNeg hc hr, fun h => ⟨by have := (hr2 h).1; omega, by omega, fun x hxm => ?_⟩⟩
    have := (hr2 h).2 x (by rw [List.drop_zero]; exact hxm)
    exact ⟨by have := this.1; omega, fun y hy => by have := this.2 y hy; omega⟩

/-! ### laws_szCoefs: function 11 -/
def laws_szCoefs.f (k : Nat) (l0_0 : List (List (List Int))) (a1 : Int) : Option (Int) := (laws_szIntSSS.f k l0_0 a1).bind fun t116 => (if t116 < 0 then (some (-1)) else (some t116))
theorem laws_szCoefs.mono : ∀ a0 a1 k, LeO (laws_szCoefs.f k a0 a1) (laws_szCoefs.f (k + 1) a0 a1) := by
 intro a0 a1 k
 unfold laws_szCoefs.f
 repeat' first
   | (with_reducible exact laws_szIntSSS.mono _ _ _)
   | (with_reducible exact LeO.refl _)
   | (with_reducible exact LeO.none _)
   | (with_reducible refine LeO.ite ?_ ?_)
   | (with_reducible refine LeO.bind ?_ (fun _ => ?_))
   | exact laws_szIntSSS.mono _ _ _
   | exact LeO.none _
   | refine LeO.ite ?_ ?_
   | refine LeO.bind ?_ (fun _ => ?_)
set_option maxHeartbeats 8000000 in
set_option maxRecDepth 100000 in
theorem laws_szCoefs.calls (k : Nat) (A0_0 : Option Addr) (c0_0 : Nat) (l0_0 : List (List (List Int))) (a1 : Int) (r : Int) (w : World) (hr0_0 : Kd.C (Kd.slice 55 (Kd.slice 3 (Kd.int .i64))) w A0_0 l0_0.length l0_0) (hc0_0 : l0_0.length ≤ c0_0) (h : laws_szCoefs.f k l0_0 a1 = some r) :
  Calls Try.prog 11 #[.agg #[.slice A0_0 l0_0.length c0_0], .int .i64 a1] w fun e w' => e = .returned (.int .i64 r) ∧ Below w.heap.size w w' := by
 have hu28 := Try.underlying28
 have HR0_0 := aM hr0_0
 have HC0_0 := aM hc0_0
 clear hr0_0 hc0_0
 have HB := aM (Below.refl w.heap.size w)
 have H : ((laws_szIntSSS.f k l0_0 a1).bind fun t116 => (if t116 < 0 then (some (-1)) else (some t116))) = some r := h
 clear h
 obtain ⟨t116, A3, H⟩ := oH H
 by_cases c4 : t116 < 0
 ·rw [if_pos c4] at H
  have c4b0 : decide (t116 < 0) = true := decide_eq_true c4
  clear c4
  obtain rfl := Option.some.inj H
  go_enter Try.func11, Try.ntmps11
  go_wp2_with (first | ((with_reducible refine gate_dst (N := 2) rfl ?_); refine box_event ?hg (N := 2) ?hd (cs := #[.slice A0_0 l0_0.length c0_0]) (t := 28) ?hr ?_; (case hd => rfl); (case hg => rfl); (case hr => first | (go_simp; done) | (go_simp; rfl)); intro gb115 hg w5 hbox hb; have BK115 := aM hbox; have GW115 := aM (zG hg : w.heap.size ≤ gb115); have GE115 := aM (zG hg : w.heap.size ≤ gb115); replace HB := cH HB hb; clear hb hbox hg; have hcz6_0 := kk1 BK115; have hfz6_0 := blk_frozen BK115.out 0) | (go_at_call 37; (with_reducible refine (laws_szIntSSS.calls k _ _ l0_0 a1 t116 _ ?side1 ?side2 A3.out).mono ?_); (case side1 => exact zC (Kd.C_below HR0_0.out HB.out)); (case side2 => exact HC0_0.out); rintro e w' ⟨rfl, ⟨nd, rfl⟩⟩))
  go_ret
  exact ⟨zR, zH⟩
 ·rw [if_neg c4] at H
  have c4b0 : decide (t116 < 0) = false := decide_eq_false c4
  clear c4
  obtain rfl := Option.some.inj H
  go_enter Try.func11, Try.ntmps11
  go_wp2_with (first | ((with_reducible refine gate_dst (N := 2) rfl ?_); refine box_event ?hg (N := 2) ?hd (cs := #[.slice A0_0 l0_0.length c0_0]) (t := 28) ?hr ?_; (case hd => rfl); (case hg => rfl); (case hr => first | (go_simp; done) | (go_simp; rfl)); intro gb115 hg w7 hbox hb; have BK115 := aM hbox; have GW115 := aM (zG hg : w.heap.size ≤ gb115); have GE115 := aM (zG hg : w.heap.size ≤ gb115); replace HB := cH HB hb; clear hb hbox hg; have hcz8_0 := kk1 BK115; have hfz8_0 := blk_frozen BK115.out 0) | (go_at_call 37; (with_reducible refine (laws_szIntSSS.calls k _ _ l0_0 a1 t116 _ ?side1 ?side2 A3.out).mono ?_); (case side1 => exact zC (Kd.C_below HR0_0.out HB.out)); (case side2 => exact HC0_0.out); rintro e w' ⟨rfl, ⟨nd, rfl⟩⟩))
  go_ret
  exact ⟨zR, zH⟩

theorem szCoefs_f (l : List (List (List Int))) (a : Int) (h0 : 0 ≤ a) (h1 : a ≤ 1048576) (hl : l.length ≤ 9223372036854775807) (hx : ∀ x ∈ l, x.length ≤ 9223372036854775807 ∧ ∀ y ∈ x, y.length ≤ 9223372036854775807) :
    ∃ r, Ev (fun k => laws_szCoefs.f k l a) r ∧ (0 ≤ r → r ≤ a ∧ (l.length : Int) ≤ 1048576 ∧ ∀ x ∈ l, BndS 1048576 x) := by
  obtain ⟨r, hr, hr2⟩ := szIntSSS_f l a h0 h1 hl hx
  unfold laws_szCoefs.f
  by_cases h : r < 0
  · exact ⟨-1, evBind hr (evPos h (Ev.now _)), fun h => by omega⟩
  · exact ⟨r, evBind hr (evNeg h (Ev.now _)), hr2⟩

/-! ### laws_szScan: function 38 -/
def laws_szScan.f (l0_0 : List Int) (a0_1 : Int) (a0_2 : Int) (a0_3 : Int) (a0_4 : Int) (a1 : Int) : Option (Int) := (laws_szIntS.f l0_0 a1).bind fun t118 => (if t118 < 0 then (some (-1)) else (some t118))
set_option maxHeartbeats 8000000 in
set_option maxRecDepth 100000 in
theorem laws_szScan.calls (A0_0 : Option Addr) (c0_0 : Nat) (l0_0 : List Int) (a0_1 : Int) (a0_2 : Int) (a0_3 : Int) (a0_4 : Int) (a1 : Int) (r : Int) (w : World) (hr0_0 : Kd.C (Kd.int .i64) w A0_0 l0_0.length l0_0) (hc0_0 : l0_0.length ≤ c0_0) (h : laws_szScan.f l0_0 a0_1 a0_2 a0_3 a0_4 a1 = some r) :
  Calls Try.prog 38 #[.agg #[.slice A0_0 l0_0.length c0_0, .int .i64 a0_1, .int .i64 a0_2, .int .i64 a0_3, .int .i64 a0_4], .int .i64 a1] w fun e w' => e = .returned (.int .i64 r) ∧ Below w.heap.size w w' := by
 have hu72 := Try.underlying72
 have HR0_0 := aM hr0_0
 have HC0_0 := aM hc0_0
 clear hr0_0 hc0_0
 have HB := aM (Below.refl w.heap.size w)
 have H : ((laws_szIntS.f l0_0 a1).bind fun t118 => (if t118 < 0 then (some (-1)) else (some t118))) = some r := h
 clear h
 obtain ⟨t118, A3, H⟩ := oH H
 by_cases c4 : t118 < 0
 ·rw [if_pos c4] at H
  have c4b0 : decide (t118 < 0) = true := decide_eq_true c4
  clear c4
  obtain rfl := Option.some.inj H
  go_enter Try.func38, Try.ntmps38
  go_wp2_with (first | ((with_reducible refine gate_dst (N := 2) rfl ?_); refine box_event ?hg (N := 2) ?hd (cs := #[.slice A0_0 l0_0.length c0_0, .int .i64 a0_1, .int .i64 a0_2, .int .i64 a0_3, .int .i64 a0_4]) (t := 72) ?hr ?_; (case hd => rfl); (case hg => rfl); (case hr => first | (go_simp; done) | (go_simp; rfl)); intro gb117 hg w5 hbox hb; have BK117 := aM hbox; have GW117 := aM (zG hg : w.heap.size ≤ gb117); have GE117 := aM (zG hg : w.heap.size ≤ gb117); replace HB := cH HB hb; clear hb hbox hg; obtain ⟨hcz6_0, hcz6_1, hcz6_2, hcz6_3, hcz6_4⟩ := kk5 BK117; obtain ⟨hfz6_0, hfz6_1, hfz6_2, hfz6_3, hfz6_4⟩ := kg5 BK117) | (go_at_call 36; (with_reducible refine (laws_szIntS.calls _ _ l0_0 a1 t118 _ ?side1 ?side2 A3.out).mono ?_); (case side1 => exact zC (Kd.C_below HR0_0.out HB.out)); (case side2 => exact HC0_0.out); rintro e w' ⟨rfl, ⟨nd, rfl⟩⟩))
  go_ret
  exact ⟨zR, zH⟩
 ·rw [if_neg c4] at H
  have c4b0 : decide (t118 < 0) = false := decide_eq_false c4
  clear c4
  obtain rfl := Option.some.inj H
  go_enter Try.func38, Try.ntmps38
  go_wp2_with (first | ((with_reducible refine gate_dst (N := 2) rfl ?_); refine box_event ?hg (N := 2) ?hd (cs := #[.slice A0_0 l0_0.length c0_0, .int .i64 a0_1, .int .i64 a0_2, .int .i64 a0_3, .int .i64 a0_4]) (t := 72) ?hr ?_; (case hd => rfl); (case hg => rfl); (case hr => first | (go_simp; done) | (go_simp; rfl)); intro gb117 hg w7 hbox hb; have BK117 := aM hbox; have GW117 := aM (zG hg : w.heap.size ≤ gb117); have GE117 := aM (zG hg : w.heap.size ≤ gb117); replace HB := cH HB hb; clear hb hbox hg; obtain ⟨hcz8_0, hcz8_1, hcz8_2, hcz8_3, hcz8_4⟩ := kk5 BK117; obtain ⟨hfz8_0, hfz8_1, hfz8_2, hfz8_3, hfz8_4⟩ := kg5 BK117) | (go_at_call 36; (with_reducible refine (laws_szIntS.calls _ _ l0_0 a1 t118 _ ?side1 ?side2 A3.out).mono ?_); (case side1 => exact zC (Kd.C_below HR0_0.out HB.out)); (case side2 => exact HC0_0.out); rintro e w' ⟨rfl, ⟨nd, rfl⟩⟩))
  go_ret
  exact ⟨zR, zH⟩

theorem szScan_f (c : List Int) (f t h l a : Int) (h0 : 0 ≤ a) (h1 : a ≤ 1152921504606846976) (hl : c.length ≤ 9223372036854775807) : laws_szScan.f c f t h l a = some (if a - (c.length : Int) < 0 then -1 else a - c.length) := by
  unfold laws_szScan.f
  rw [szIntS_f c a h0 h1 hl]
  simp only [Option.bind_some]
  by_cases hc : a - (c.length : Int) < 0
  · rw [if_pos hc]; rfl
  · rw [if_neg hc, if_neg hc]

/-! ### laws_szScanS: function 12 -/
def laws_szScanS.l0 : Nat → List (S72) → Int → Int → Option (Int)
  | 0, _, _, _ => none
  | k + 1, x0, x1, x5 => if x5 < (x0.length : Int) then (if 0 ≤ x5 then ((laws_szScan.f ((rd_T72 x0 x5).f0) ((rd_T72 x0 x5).f1) ((rd_T72 x0 x5).f2) ((rd_T72 x0 x5).f3) ((rd_T72 x0 x5).f4) x1).bind fun t120 => (if t120 < 0 then (some (-1)) else (laws_szScanS.l0 k x0 t120 (wrap64 (x5 + 1))))) else (none)) else (some x1)
def laws_szScanS.f (k : Nat) (l0 : List (S72)) (a1 : Int) : Option (Int) := if (wrap64 (a1 - (l0.length : Int))) < 0 then (some (-1)) else (laws_szScanS.l0 k l0 (wrap64 (a1 - (l0.length : Int))) 0)
theorem laws_szScanS.mono_l : ∀ k, (∀ y0 y1 y2, LeO (laws_szScanS.l0 k y0 y1 y2) (laws_szScanS.l0 (k + 1) y0 y1 y2))
 | 0 => fun _ _ _ r h => by simp [laws_szScanS.l0] at h
 | k + 1 => by
  have ih0 := laws_szScanS.mono_l k
  ·intro y0 y1 y2
   unfold laws_szScanS.l0
   repeat' first
   | (with_reducible exact ih0 _ _ _)
   | (with_reducible exact LeO.refl _)
   | (with_reducible exact LeO.none _)
   | (with_reducible refine LeO.ite ?_ ?_)
   | (with_reducible refine LeO.bind ?_ (fun _ => ?_))
   | exact ih0 _ _ _
   | exact LeO.none _
   | refine LeO.ite ?_ ?_
   | refine LeO.bind ?_ (fun _ => ?_)
theorem laws_szScanS.mono : ∀ a0 a1 k, LeO (laws_szScanS.f k a0 a1) (laws_szScanS.f (k + 1) a0 a1) := by
 intro a0 a1 k
 have ih0 := laws_szScanS.mono_l k
 unfold laws_szScanS.f
 repeat' first
   | (with_reducible exact ih0 _ _ _)
   | (with_reducible exact LeO.refl _)
   | (with_reducible exact LeO.none _)
   | (with_reducible refine LeO.ite ?_ ?_)
   | (with_reducible refine LeO.bind ?_ (fun _ => ?_))
   | exact ih0 _ _ _
   | exact LeO.none _
   | refine LeO.ite ?_ ?_
   | refine LeO.bind ?_ (fun _ => ?_)
set_option maxHeartbeats 8000000 in
set_option maxRecDepth 100000 in
theorem laws_szScanS.calls (k : Nat) (A0 : Option Addr) (c0 : Nat) (l0 : List (S72)) (a1 : Int) (r : Int) (w : World) (hr0 : Kd.C k72 w A0 l0.length l0) (hc0 : l0.length ≤ c0) (h : laws_szScanS.f k l0 a1 = some r) :
  Calls Try.prog 12 #[.slice A0 l0.length c0, .int .i64 a1] w fun e w' => e = .returned (.int .i64 r) ∧ Below w.heap.size w w' := by
 have hu72 := Try.underlying72
 have HR0 := aM hr0
 have HC0 := aM hc0
 clear hr0 hc0
 have HB := aM (Below.refl w.heap.size w)
 have H : (if (wrap64 (a1 - (l0.length : Int))) < 0 then (some (-1)) else (laws_szScanS.l0 k l0 (wrap64 (a1 - (l0.length : Int))) 0)) = some r := h
 clear h
 by_cases c3 : (wrap64 (a1 - (l0.length : Int))) < 0
 ·rw [if_pos c3] at H
  have c3b0 : decide ((wrap64 (a1 - (l0.length : Int))) < 0) = true := decide_eq_true c3
  clear c3
  obtain rfl := Option.some.inj H
  go_enter Try.func12, Try.ntmps12
  go_wp2
  go_ret
  exact ⟨zR, zH⟩
 ·rw [if_neg c3] at H
  have c3b0 : decide ((wrap64 (a1 - (l0.length : Int))) < 0) = false := decide_eq_false c3
  clear c3
  have H' := aM H
  clear H
  go_enter Try.func12, Try.ntmps12
  go_wp2
  go_loopg [1, 5] k (fun kq v1 v5 w' => ∃ (x1_1 : Int) (x5_1 : Int), v1 = .int .i64 x1_1 ∧ v5 = .int .i64 x5_1 ∧ Aside0 (laws_szScanS.l0 kq l0 x1_1 x5_1 = some r) ∧ Aside0 (kq ≤ k) ∧ Aside0 (Below w.heap.size w w'))
  case atStart => exact ⟨(wrap64 (a1 - (l0.length : Int))), (0), zS, zS, H', ⟨Nat.le_refl _⟩, ⟨zH⟩⟩
  case round =>
   clear H'
   try clear c3b0
   obtain ⟨x1_1, x5_1, rfl, rfl, HA, HK1, HB⟩ := hrel
   cases gk with
   | zero => exact absurd HA.out (by simp [laws_szScanS.l0])
   | succ k1 =>
    have H := HA.out
    clear HA
    simp only [laws_szScanS.l0] at H
    by_cases c4 : x5_1 < (l0.length : Int)
    ·rw [if_pos c4] at H
     have c4b0 : decide (x5_1 < (l0.length : Int)) = true := decide_eq_true c4
     clear c4
     by_cases c5 : 0 ≤ x5_1
     ·rw [if_pos c5] at H
      have c5b0 : decide (0 ≤ x5_1) = true := decide_eq_true c5
      clear c5
      obtain ⟨t120, A6, H⟩ := oH H
      by_cases c7 : t120 < 0
      ·rw [if_pos c7] at H
       have c7b0 : decide (t120 < 0) = true := decide_eq_true c7
       clear c7
       obtain rfl := Option.some.inj H
       have p119 : 0 ≤ (x5_1 : Int) := zA
       have q119 : x5_1 < (l0.length : Int) := zA
       obtain ⟨ad119, A119_0, c119_0, e119, hx119_0, hx119_1, hx119_2, hx119_3, hx119_4, hl119_0, hi119_0⟩ := at_T72 HR0.out x5_1 p119 q119
       cases e119
       replace hx119_0 := hX HB hx119_0
       replace hx119_1 := hX HB hx119_1
       replace hx119_2 := hX HB hx119_2
       replace hx119_3 := hX HB hx119_3
       replace hx119_4 := hX HB hx119_4
       have HR119_0 := aM hi119_0
       have HC119_0 := aM hl119_0
       clear hi119_0 hl119_0
       replace p119 := eq_true p119
       replace q119 := eq_true q119
       go_wp2_with (first | (go_at_call 38; (with_reducible refine (laws_szScan.calls _ _ ((rd_T72 l0 x5_1).f0) ((rd_T72 l0 x5_1).f1) ((rd_T72 l0 x5_1).f2) ((rd_T72 l0 x5_1).f3) ((rd_T72 l0 x5_1).f4) x1_1 t120 _ ?side1 ?side2 A6.out).mono ?_); (case side1 => exact zC (Kd.C_below HR119_0.out HB.out)); (case side2 => exact HC119_0.out); rintro e w8 ⟨rfl, hb⟩; replace HB := cH HB hb; (try clear hb)))
       go_ret
       exact ⟨zR, zH⟩
      ·rw [if_neg c7] at H
       have c7b0 : decide (t120 < 0) = false := decide_eq_false c7
       clear c7
       have H' := aM H
       clear H
       have p119 : 0 ≤ (x5_1 : Int) := zA
       have q119 : x5_1 < (l0.length : Int) := zA
       obtain ⟨ad119, A119_0, c119_0, e119, hx119_0, hx119_1, hx119_2, hx119_3, hx119_4, hl119_0, hi119_0⟩ := at_T72 HR0.out x5_1 p119 q119
       cases e119
       replace hx119_0 := hX HB hx119_0
       replace hx119_1 := hX HB hx119_1
       replace hx119_2 := hX HB hx119_2
       replace hx119_3 := hX HB hx119_3
       replace hx119_4 := hX HB hx119_4
       have HR119_0 := aM hi119_0
       have HC119_0 := aM hl119_0
       clear hi119_0 hl119_0
       replace p119 := eq_true p119
       replace q119 := eq_true q119
       go_wp2_with (first | (go_at_call 38; (with_reducible refine (laws_szScan.calls _ _ ((rd_T72 l0 x5_1).f0) ((rd_T72 l0 x5_1).f1) ((rd_T72 l0 x5_1).f2) ((rd_T72 l0 x5_1).f3) ((rd_T72 l0 x5_1).f4) x1_1 t120 _ ?side1 ?side2 A6.out).mono ?_); (case side1 => exact zC (Kd.C_below HR119_0.out HB.out)); (case side2 => exact HC119_0.out); rintro e w9 ⟨rfl, hb⟩; replace HB := cH HB hb; (try clear hb)))
       go_roundg k1
       case measure => have := HK1.out; omega
       case rel => exact ⟨(t120), (wrap64 (x5_1 + 1)), zS, zS, H', ⟨by have := HK1.out; omega⟩, ⟨zH⟩⟩
     ·rw [if_neg c5] at H
      exact absurd H (by simp)
    ·rw [if_neg c4] at H
     have c4b0 : decide (x5_1 < (l0.length : Int)) = false := decide_eq_false c4
     clear c4
     obtain rfl := Option.some.inj H
     go_wp2
     go_ret
     exact ⟨zR, zH⟩

def totC (l : List S72) : Nat := (l.map fun s => s.f0.length).sum
theorem totC_cons (x : S72) (l : List S72) : totC (x :: l) = x.f0.length + totC l := by simp [totC]
theorem totC_mem {l : List S72} {x : S72} (h : x ∈ l) : x.f0.length ≤ totC l := by
  induction l with
  | nil => simp at h
  | cons y l ih =>
    rw [totC_cons]
    rcases List.mem_cons.1 h with rfl | h
    · omega
    · have := ih h
      omega
theorem rdLS_nat {l : List S72} {i : Nat} (h : i < l.length) : rd_T72 l (i : Int) = l[i] := by
  simp [rd_T72, List.getD, h]
theorem szScanS_l0 (l : List S72) (hl : l.length ≤ 1152921504606846976) (hx : ∀ x ∈ l, x.f0.length ≤ 9223372036854775807) : ∀ (d i : Nat) (a : Int), i + d = l.length → 0 ≤ a → a ≤ 1152921504606846976 →
    ∃ r, Ev (fun k => laws_szScanS.l0 k l a i) r ∧ (0 ≤ r → r = a - (totC (l.drop i) : Nat)) := by
  intro d
  induction d with
  | zero =>
    intro i a hi h0 h1
    refine ⟨a, Ev.step (fun k => by rw [laws_szScanS.l0]) (evNeg (by omega) (Ev.now _)), fun _ => ?_⟩
    rw [List.drop_eq_nil_of_le (by omega)]
    simp [totC]
  | succ d ih =>
    intro i a hi h0 h1
    have hlt : i < l.length := by omega
    have hg := hx _ (List.getElem_mem hlt)
    by_cases hc : a - (l[i].f0.length : Int) < 0
    · refine ⟨-1, Ev.step (fun k => by rw [laws_szScanS.l0]) (evPos (by omega) (evPos (by omega) ?_)), fun h => by omega⟩
      rw [rdLS_nat hlt]
      refine evBind (evConst (szScan_f _ _ _ _ _ a h0 h1 hg)) (evPos ?_ (Ev.now _))
      rw [if_pos hc]
      omega
    · obtain ⟨r, hr, hr2⟩ := ih (i + 1) (a - l[i].f0.length) (by omega) (by omega) (by omega)
      refine ⟨r, Ev.step (fun k => by rw [laws_szScanS.l0]) (evPos (by omega) (evPos (by omega) ?_)), fun h => ?_⟩
      · rw [rdLS_nat hlt]
        refine evBind (evConst (szScan_f _ _ _ _ _ a h0 h1 hg)) ?_
        rw [if_neg hc]
        refine evNeg hc ?_
        rw [show (i : Int) + 1 = ((i + 1 : Nat) : Int) from by omega, w64n (by omega)]
        exact hr
      · rw [hr2 h, List.drop_eq_getElem_cons hlt, totC_cons]
        omega
theorem szScanS_f (l : List S72) (a : Int) (h0 : 0 ≤ a) (h1 : a ≤ 1152921504606846976) (hl : l.length ≤ 9223372036854775807) (hx : ∀ x ∈ l, x.f0.length ≤ 9223372036854775807) :
    ∃ r, Ev (fun k => laws_szScanS.f k l a) r ∧ (0 ≤ r → r = a - (l.length : Int) - (totC l : Nat)) := by
  unfold laws_szScanS.f
  rw [w64 (by omega) (by omega)]
  by_cases hc : a - (l.length : Int) < 0
  · exact ⟨-1, evPos hc (Ev.now _), fun h => by omega⟩
  · obtain ⟨r, hr, hr2⟩ := szScanS_l0 l (by omega) hx l.length 0 (a - l.length) (by omega) (by omega) (by omega)
    exact ⟨r, evNeg hc hr, fun h => by rw [hr2 h, List.drop_zero]⟩

/-! ### laws_szByteS: function 13 -/
def laws_szByteS.f (l0 : List Int) (a1 : Int) : Option (Int) := if (wrap64 (a1 - (l0.length : Int))) < 0 then (some (-1)) else (some (wrap64 (a1 - (l0.length : Int))))
set_option maxHeartbeats 8000000 in
set_option maxRecDepth 100000 in
theorem laws_szByteS.calls (A0 : Option Addr) (c0 : Nat) (l0 : List Int) (a1 : Int) (r : Int) (w : World) (hr0 : Kd.C (Kd.int .u8) w A0 l0.length l0) (hc0 : l0.length ≤ c0) (h : laws_szByteS.f l0 a1 = some r) :
  Calls Try.prog 13 #[.slice A0 l0.length c0, .int .i64 a1] w fun e w' => e = .returned (.int .i64 r) ∧ Drawn0 w w' := by
 have HR0 := aM hr0
 have HC0 := aM hc0
 clear hr0 hc0
 have H : (if (wrap64 (a1 - (l0.length : Int))) < 0 then (some (-1)) else (some (wrap64 (a1 - (l0.length : Int))))) = some r := h
 clear h
 by_cases c3 : (wrap64 (a1 - (l0.length : Int))) < 0
 ·rw [if_pos c3] at H
  have c3b0 : decide ((wrap64 (a1 - (l0.length : Int))) < 0) = true := decide_eq_true c3
  clear c3
  obtain rfl := Option.some.inj H
  go_enter Try.func13, Try.ntmps13
  go_wp2
  go_ret
  exact ⟨by first | rfl | (simp; done) | (simp [*]; done), by repeat (first | exact Drawn0.refl _ | apply Drawn0.step)⟩
 ·rw [if_neg c3] at H
  have c3b0 : decide ((wrap64 (a1 - (l0.length : Int))) < 0) = false := decide_eq_false c3
  clear c3
  obtain rfl := Option.some.inj H
  go_enter Try.func13, Try.ntmps13
  go_wp2
  go_ret
  exact ⟨by first | rfl | (simp; done) | (simp [*]; done), by repeat (first | exact Drawn0.refl _ | apply Drawn0.step)⟩

/-! ### laws_toIntS: function 46 -/
def laws_toIntS.l0 : Nat → List Int → List Int → Int → Option (List Int)
  | 0, _, _, _ => none
  | k + 1, x0, x3, x4 => if x4 < (x0.length : Int) then (if 0 ≤ x4 then (if x4 < (x3.length : Int) then (laws_toIntS.l0 k x0 (x3.set (x4 : Int).toNat (rd x0 x4)) (wrap64 (x4 + 1))) else (none)) else (none)) else (some x3)
def laws_toIntS.f (k : Nat) (l0 : List Int) : Option (List Int) := if 0 ≤ (l0.length : Int) then (if ((l0.length : Int) : Int).toNat ≤ 35184372088832 then (laws_toIntS.l0 k l0 (List.replicate ((l0.length : Int) : Int).toNat 0) 0) else (none)) else (none)
theorem laws_toIntS.mono_l : ∀ k, (∀ y0 y1 y2, LeO (laws_toIntS.l0 k y0 y1 y2) (laws_toIntS.l0 (k + 1) y0 y1 y2))
 | 0 => fun _ _ _ r h => by simp [laws_toIntS.l0] at h
 | k + 1 => by
  have ih0 := laws_toIntS.mono_l k
  ·intro y0 y1 y2
   unfold laws_toIntS.l0
   repeat' first
   | (with_reducible exact ih0 _ _ _)
   | (with_reducible exact LeO.refl _)
   | (with_reducible exact LeO.none _)
   | (with_reducible refine LeO.ite ?_ ?_)
   | (with_reducible refine LeO.bind ?_ (fun _ => ?_))
   | exact ih0 _ _ _
   | exact LeO.none _
   | refine LeO.ite ?_ ?_
   | refine LeO.bind ?_ (fun _ => ?_)
theorem laws_toIntS.mono : ∀ a0 k, LeO (laws_toIntS.f k a0) (laws_toIntS.f (k + 1) a0) := by
 intro a0 k
 have ih0 := laws_toIntS.mono_l k
 unfold laws_toIntS.f
 repeat' first
   | (with_reducible exact ih0 _ _ _)
   | (with_reducible exact LeO.refl _)
   | (with_reducible exact LeO.none _)
   | (with_reducible refine LeO.ite ?_ ?_)
   | (with_reducible refine LeO.bind ?_ (fun _ => ?_))
   | exact ih0 _ _ _
   | exact LeO.none _
   | refine LeO.ite ?_ ?_
   | refine LeO.bind ?_ (fun _ => ?_)
set_option maxHeartbeats 8000000 in
set_option maxRecDepth 100000 in
theorem laws_toIntS.calls (k : Nat) (A0 : Option Addr) (c0 : Nat) (l0 : List Int) (r : List Int) (w : World) (hr0 : Kd.C (Kd.int .i64) w A0 l0.length l0) (hc0 : l0.length ≤ c0) (h : laws_toIntS.f k l0 = some r) :
  Calls Try.prog 46 #[.slice A0 l0.length c0] w fun e w' => ∃ v0_ : Value, e = .returned (v0_) ∧ Kd.R (Kd.int .i64) 3 w' w.heap.size (fun _ => True) v0_ r ∧ Below w.heap.size w w' := by
 have HR0 := aM hr0
 have HC0 := aM hc0
 clear hr0 hc0
 have HB := aM (Below.refl w.heap.size w)
 have H : (if 0 ≤ (l0.length : Int) then (if ((l0.length : Int) : Int).toNat ≤ 35184372088832 then (laws_toIntS.l0 k l0 (List.replicate ((l0.length : Int) : Int).toNat 0) 0) else (none)) else (none)) = some r := h
 clear h
 by_cases c2 : 0 ≤ (l0.length : Int)
 ·rw [if_pos c2] at H
  have c2b0 := eq_true c2
  have c2b1 : decide (0 ≤ (l0.length : Int)) = true := decide_eq_true c2
  clear c2
  by_cases c3 : ((l0.length : Int) : Int).toNat ≤ 35184372088832
  ·rw [if_pos c3] at H
   have c3b0 := eq_true c3
   have c3b1 : decide (((l0.length : Int) : Int).toNat ≤ 35184372088832) = true := decide_eq_true c3
   clear c3
   obtain ⟨y121, hy121⟩ : ∃ y_ : List Int, y_ = (List.replicate ((l0.length : Int) : Int).toNat 0) := ⟨_, rfl⟩
   replace H : (laws_toIntS.l0 k l0 y121 0) = some r := by first | (rw [hy121]; with_reducible exact H) | (have H2_ := (Option.bind_some _ _).symm.trans H; rw [hy121]; with_reducible exact H2_) | (have H2_ := (Option.bind_some _ _).symm.trans H; with_reducible exact H2_) | with_reducible exact H | (rw [hy121]; exact H) | exact H
   have Ny121 := aM hy121
   clear hy121
   have H' := aM H
   clear H
   go_enter Try.func46, Try.ntmps46
   go_wp2_with (first | ((with_reducible refine gate_dst (N := 7) rfl ?_); refine Kd.R_make (Kd.int .i64) _ 3 rfl (N := 7) rfl 55 _ _ rfl (l0.length : Int) rfl rfl Try.underlying55 (.int .i64 0) 8 info3 rfl (by decide) (by omega) 0 (ok := fun _ => True) (okp := fun _ => True) rfl (fun _ hk => hk) trivial (zA) (Nat.le_trans (Nat.mul_le_mul_right _ (zA : (l0.length : Int).toNat ≤ 35184372088832)) (by omega)) (Below.refl _ _) (Nat.le_refl _) ?_; intro v122 w4 ho5 hb hg_ hnew_; clear hg_ hnew_; (first | rw [← Ny121.out] at ho5 | (simp only [Int.reduceToNat] at ho5; rw [← Ny121.out] at ho5)); have HO123 := aM (Kd.R_lower ho5 (below_size zH)); replace HB := cH HB hb; clear hb ho5))
   go_loopg [4] k (fun kq v4 w' => ∃ (x3_1 : List Int) (x4_1 : Int), v4 = .int .i64 x4_1 ∧ Aside0 (laws_toIntS.l0 kq l0 x3_1 x4_1 = some r) ∧ Aside0 (kq ≤ k) ∧ Aside0 (Kd.R (Kd.int .i64) 3 w' w.heap.size (fun _ => True) v122 x3_1) ∧ Aside0 (Below w.heap.size w w'))
   case atStart => exact ⟨(y121), (0), zS, H', ⟨Nat.le_refl _⟩, ⟨by (with_reducible repeat (first | apply Kd.R_alloc | apply Kd.R_drewN | apply Kd.R_drew)); exact HO123.out⟩, ⟨zH⟩⟩
   case round =>
    clear H'
    (try clear c2b0); (try clear c2b1); (try clear c3b0); (try clear c3b1)
    obtain ⟨x3_1, x4_1, rfl, HA, HK1, HO_3, HB⟩ := hrel
    cases gk with
    | zero => exact absurd HA.out (by simp [laws_toIntS.l0])
    | succ k1 =>
     have H := HA.out
     clear HA
     simp only [laws_toIntS.l0] at H
     by_cases c6 : x4_1 < (l0.length : Int)
     ·rw [if_pos c6] at H
      have c6b0 : decide (x4_1 < (l0.length : Int)) = true := decide_eq_true c6
      clear c6
      by_cases c7 : 0 ≤ x4_1
      ·rw [if_pos c7] at H
       have c7b0 : decide (0 ≤ x4_1) = true := decide_eq_true c7
       clear c7
       by_cases c8 : x4_1 < (x3_1.length : Int)
       ·rw [if_pos c8] at H
        have c8b0 : decide (x4_1 < (x3_1.length : Int)) = true := decide_eq_true c8
        clear c8
        obtain ⟨y125, hy125⟩ : ∃ y_ : List Int, y_ = (x3_1.set (x4_1 : Int).toNat (rd l0 x4_1)) := ⟨_, rfl⟩
        replace H : (laws_toIntS.l0 k1 l0 y125 (wrap64 (x4_1 + 1))) = some r := by first | (rw [hy125]; with_reducible exact H) | (have H2_ := (Option.bind_some _ _).symm.trans H; rw [hy125]; with_reducible exact H2_) | (have H2_ := (Option.bind_some _ _).symm.trans H; with_reducible exact H2_) | with_reducible exact H | (rw [hy125]; exact H) | exact H
        have Ny125 := aM hy125
        clear hy125
        have H' := aM H
        clear H
        have p124 : 0 ≤ (x4_1 : Int) := zA
        have q124 : x4_1 < (l0.length : Int) := zA
        obtain ⟨ad124, e124, hx124_0⟩ := Kd.at_int HR0.out x4_1 p124 q124
        cases e124
        replace hx124_0 := hX HB hx124_0
        replace p124 := eq_true p124
        replace q124 := eq_true q124
        have p9 : 0 ≤ (x4_1 : Int) := zA
        have q9 : (x4_1 : Int) < ((x3_1.length : Int) : Int) := zA
        obtain ⟨go9, co9, eo9, gb9, gl9, cl9, HG9⟩ := Kd.R_form HO_3.out (by omega)
        (first | cases eo9 | (injection eo9 with ea_ en_ ec_; (first | subst ea_ | (injection ea_ with ea_; subst ea_)); subst ec_; clear en_))
        have GB9 := aM gb9
        have GG9 := aM HG9
        clear gb9 gl9 HG9
        obtain ⟨hx9_0, hf9_0⟩ := Kd.R_celln 0 HO_3.out (x4_1 : Int) p9 q9
        replace p9 := eq_true p9
        replace q9 := eq_true q9
        have HP10 := Kd.R_putg HO_3.out (x4_1 : Int) (rd l0 x4_1)
        go_wp2_with (first | ((with_reducible refine gate_store (t := 3) (p := 20) rfl ?_); refine store_event (t := 3) (p := 20) (v := ?vo_w11) (w1 := (wr.setCell ⟨go9, (x4_1 : Int).toNat, none⟩ (.int .i64 (rd l0 x4_1)))) ?hg ?ho ?hn ?hr ?_; (case ho => rfl); (case hg => rfl); (case hn => rfl); (case hr => first | (go_simp; done) | (go_simp; rfl)); intro w11 hw; have hg : wr.grownBy w11 (some go9) := (by rw [hw]; exact HP10.2); have hp_ : Kd.R (Kd.int .i64) 3 w11 w.heap.size (fun _ => True) (.slice (some ⟨go9, 0, none⟩) x3_1.length co9) y125 := (by rw [hw, Ny125.out]; exact HP10.1); clear HP10; replace HO_3 := aM (hp_); replace HB := aM ((by rw [hw]; exact bS (HB.out) GB9.out : Below w.heap.size w w11)); clear hg hw hp_))
        go_roundg k1
        case measure => have := HK1.out; omega
        case rel => exact ⟨(y125), (wrap64 (x4_1 + 1)), zS, H', ⟨by have := HK1.out; omega⟩, ⟨by (with_reducible repeat (first | apply Kd.R_alloc | apply Kd.R_drewN | apply Kd.R_drew)); exact HO_3.out⟩, ⟨zH⟩⟩
       ·rw [if_neg c8] at H
        exact absurd H (by simp)
      ·rw [if_neg c7] at H
       exact absurd H (by simp)
     ·rw [if_neg c6] at H
      have c6b0 : decide (x4_1 < (l0.length : Int)) = false := decide_eq_false c6
      clear c6
      obtain rfl := Option.some.inj H
      go_wp2
      go_ret
      exact ⟨_, zR, by (with_reducible repeat (first | apply Kd.R_alloc | apply Kd.R_drewN | apply Kd.R_drew)); exact HO_3.out, zH⟩
  ·rw [if_neg c3] at H
   exact absurd H (by simp)
 ·rw [if_neg c2] at H
  exact absurd H (by simp)

theorem toIntS_l0 (l : List Int) (hl : l.length ≤ 1048576) : ∀ (d i : Nat) (m : List Int), i + d = l.length → m.length = l.length → m.take i = l.take i → Ev (fun k => laws_toIntS.l0 k l m i) l := by
  intro d
  induction d with
  | zero =>
    intro i m hi hm ht
    refine Ev.step (fun k => by rw [laws_toIntS.l0]) ?_
    rw [List.take_of_length_le (by omega), List.take_of_length_le (by omega)] at ht
    subst ht
    exact evNeg (by omega) (Ev.now _)
  | succ d ih =>
    intro i m hi hm ht
    have h1 : i < l.length := by omega
    refine Ev.step (fun k => by rw [laws_toIntS.l0]) ?_
    refine evPos (by omega) (evPos (by omega) (evPos (by omega) ?_))
    rw [rd_nat h1, w64 (by omega) (by omega), Int.toNat_natCast]
    refine ih (i + 1) _ (by omega) (by simp [hm]) ?_
    rw [List.take_succ_eq_append_getElem (by simp; omega), List.take_succ_eq_append_getElem h1, List.take_set_of_le (Nat.le_refl _), ht]
    simp
theorem toIntS_f (l : List Int) (hl : l.length ≤ 1048576) : Ev (fun k => laws_toIntS.f k l) l := by
  unfold laws_toIntS.f
  refine evPos (by omega) (evPos (by omega) ?_)
  exact toIntS_l0 l hl l.length 0 _ (by omega) (by simp) (by simp)

/-! ### laws_toIntSS: function 20 -/
def laws_toIntSS.l0 : Nat → List (List Int) → List (List Int) → Int → Option ((List (List Int)))
  | 0, _, _, _ => none
  | k + 1, x0, x3, x4 => if x4 < (x0.length : Int) then (if 0 ≤ x4 then ((laws_toIntS.f k (rd_L2 x0 x4)).bind fun t130 => (if x4 < (x3.length : Int) then (laws_toIntSS.l0 k x0 (x3.set (x4 : Int).toNat t130) (wrap64 (x4 + 1))) else (none))) else (none)) else (some x3)
def laws_toIntSS.f (k : Nat) (l0 : List (List Int)) : Option ((List (List Int))) := if 0 ≤ (l0.length : Int) then (if ((l0.length : Int) : Int).toNat ≤ 11728124029610 then (laws_toIntSS.l0 k l0 (List.replicate ((l0.length : Int) : Int).toNat []) 0) else (none)) else (none)
theorem laws_toIntSS.mono_l : ∀ k, (∀ y0 y1 y2, LeO (laws_toIntSS.l0 k y0 y1 y2) (laws_toIntSS.l0 (k + 1) y0 y1 y2))
 | 0 => fun _ _ _ r h => by simp [laws_toIntSS.l0] at h
 | k + 1 => by
  have ih0 := laws_toIntSS.mono_l k
  ·intro y0 y1 y2
   unfold laws_toIntSS.l0
   repeat' first
   | (with_reducible exact ih0 _ _ _)
   | (with_reducible exact laws_toIntS.mono _ _)
   | (with_reducible exact LeO.refl _)
   | (with_reducible exact LeO.none _)
   | (with_reducible refine LeO.ite ?_ ?_)
   | (with_reducible refine LeO.bind ?_ (fun _ => ?_))
   | exact ih0 _ _ _
   | exact laws_toIntS.mono _ _
   | exact LeO.none _
   | refine LeO.ite ?_ ?_
   | refine LeO.bind ?_ (fun _ => ?_)
theorem laws_toIntSS.mono : ∀ a0 k, LeO (laws_toIntSS.f k a0) (laws_toIntSS.f (k + 1) a0) := by
 intro a0 k
 have ih0 := laws_toIntSS.mono_l k
 unfold laws_toIntSS.f
 repeat' first
   | (with_reducible exact ih0 _ _ _)
   | (with_reducible exact laws_toIntS.mono _ _)
   | (with_reducible exact LeO.refl _)
   | (with_reducible exact LeO.none _)
   | (with_reducible refine LeO.ite ?_ ?_)
   | (with_reducible refine LeO.bind ?_ (fun _ => ?_))
   | exact ih0 _ _ _
   | exact laws_toIntS.mono _ _
   | exact LeO.none _
   | refine LeO.ite ?_ ?_
   | refine LeO.bind ?_ (fun _ => ?_)
set_option maxHeartbeats 8000000 in
set_option maxRecDepth 100000 in
theorem laws_toIntSS.calls (k : Nat) (A0 : Option Addr) (c0 : Nat) (l0 : List (List Int)) (r : List (List Int)) (w : World) (hr0 : Kd.C (Kd.slice 3 (Kd.int .i64)) w A0 l0.length l0) (hc0 : l0.length ≤ c0) (h : laws_toIntSS.f k l0 = some r) :
  Calls Try.prog 20 #[.slice A0 l0.length c0] w fun e w' => ∃ v0_ : Value, e = .returned (v0_) ∧ Kd.S (Kd.slice 3 (Kd.int .i64)) 55 w' w.heap.size (fun _ => True) v0_ r ∧ Below w.heap.size w w' := by
 have HR0 := aM hr0
 have HC0 := aM hc0
 clear hr0 hc0
 have HB := aM (Below.refl w.heap.size w)
 have H : (if 0 ≤ (l0.length : Int) then (if ((l0.length : Int) : Int).toNat ≤ 11728124029610 then (laws_toIntSS.l0 k l0 (List.replicate ((l0.length : Int) : Int).toNat []) 0) else (none)) else (none)) = some r := h
 clear h
 by_cases c2 : 0 ≤ (l0.length : Int)
 ·rw [if_pos c2] at H
  have c2b0 := eq_true c2
  have c2b1 : decide (0 ≤ (l0.length : Int)) = true := decide_eq_true c2
  clear c2
  by_cases c3 : ((l0.length : Int) : Int).toNat ≤ 11728124029610
  ·rw [if_pos c3] at H
   have c3b0 := eq_true c3
   have c3b1 : decide (((l0.length : Int) : Int).toNat ≤ 11728124029610) = true := decide_eq_true c3
   clear c3
   obtain ⟨y126, hy126⟩ : ∃ y_ : List (List Int), y_ = (List.replicate ((l0.length : Int) : Int).toNat []) := ⟨_, rfl⟩
   replace H : (laws_toIntSS.l0 k l0 y126 0) = some r := by first | (rw [hy126]; with_reducible exact H) | (have H2_ := (Option.bind_some _ _).symm.trans H; rw [hy126]; with_reducible exact H2_) | (have H2_ := (Option.bind_some _ _).symm.trans H; with_reducible exact H2_) | with_reducible exact H | (rw [hy126]; exact H) | exact H
   have Ny126 := aM hy126
   clear hy126
   have H' := aM H
   clear H
   go_enter Try.func20, Try.ntmps20
   go_wp2_with (first | ((with_reducible refine gate_dst (N := 7) rfl ?_); refine Kd.S_make (Kd.slice 3 (Kd.int .i64)) _ 55 rfl (N := 7) rfl 25 _ _ rfl (l0.length : Int) rfl rfl Try.underlying25 (.slice none 0 0) 24 info55 rfl (by decide) (by omega) [] (ok := fun _ => True) (okp := fun _ => True) ⟨_, rfl, Kd.R_nil _ _ _ _ _⟩ (fun _ hk => hk) trivial (zA) (Nat.le_trans (Nat.mul_le_mul_right _ (zA : (l0.length : Int).toNat ≤ 11728124029610)) (by omega)) (Below.refl _ _) (Nat.le_refl _) ?_; intro v127 w4 ho5 hb hg_ hnew_; clear hg_ hnew_; (first | rw [← Ny126.out] at ho5 | (simp only [Int.reduceToNat] at ho5; rw [← Ny126.out] at ho5)); have HO128 := aM (Kd.S_lower ho5 (below_size zH)); replace HB := cH HB hb; clear hb ho5))
   go_loopg [4] k (fun kq v4 w' => ∃ (x3_1 : List (List Int)) (x4_1 : Int), v4 = .int .i64 x4_1 ∧ Aside0 (laws_toIntSS.l0 kq l0 x3_1 x4_1 = some r) ∧ Aside0 (kq ≤ k) ∧ Aside0 (Kd.S (Kd.slice 3 (Kd.int .i64)) 55 w' w.heap.size (fun _ => True) v127 x3_1) ∧ Aside0 (Below w.heap.size w w'))
   case atStart => exact ⟨(y126), (0), zS, H', ⟨Nat.le_refl _⟩, ⟨by (with_reducible repeat (first | apply Kd.S_alloc | apply Kd.S_drewN | apply Kd.S_drew)); exact HO128.out⟩, ⟨zH⟩⟩
   case round =>
    clear H'
    (try clear c2b0); (try clear c2b1); (try clear c3b0); (try clear c3b1)
    obtain ⟨x3_1, x4_1, rfl, HA, HK1, HO_3, HB⟩ := hrel
    cases gk with
    | zero => exact absurd HA.out (by simp [laws_toIntSS.l0])
    | succ k1 =>
     have H := HA.out
     clear HA
     simp only [laws_toIntSS.l0] at H
     by_cases c6 : x4_1 < (l0.length : Int)
     ·rw [if_pos c6] at H
      have c6b0 : decide (x4_1 < (l0.length : Int)) = true := decide_eq_true c6
      clear c6
      by_cases c7 : 0 ≤ x4_1
      ·rw [if_pos c7] at H
       have c7b0 : decide (0 ≤ x4_1) = true := decide_eq_true c7
       clear c7
       obtain ⟨t130, A8, H⟩ := oH H
       by_cases c9 : x4_1 < (x3_1.length : Int)
       ·rw [if_pos c9] at H
        have c9b0 : decide (x4_1 < (x3_1.length : Int)) = true := decide_eq_true c9
        clear c9
        obtain ⟨y133, hy133⟩ : ∃ y_ : List (List Int), y_ = (x3_1.set (x4_1 : Int).toNat t130) := ⟨_, rfl⟩
        replace H : (laws_toIntSS.l0 k1 l0 y133 (wrap64 (x4_1 + 1))) = some r := by first | (rw [hy133]; with_reducible exact H) | (have H2_ := (Option.bind_some _ _).symm.trans H; rw [hy133]; with_reducible exact H2_) | (have H2_ := (Option.bind_some _ _).symm.trans H; with_reducible exact H2_) | with_reducible exact H | (rw [hy133]; exact H) | exact H
        have Ny133 := aM hy133
        clear hy133
        have H' := aM H
        clear H
        have p129 : 0 ≤ (x4_1 : Int) := zA
        have q129 : x4_1 < (l0.length : Int) := zA
        obtain ⟨ad129, A129_0, c129_0, e129, hx129_0, hl129_0, hi129_0⟩ := at_L2 HR0.out x4_1 p129 q129
        cases e129
        replace hx129_0 := hX HB hx129_0
        have HR129_0 := aM hi129_0
        have HC129_0 := aM hl129_0
        clear hi129_0 hl129_0
        replace p129 := eq_true p129
        replace q129 := eq_true q129
        go_wp2_with (first | (go_at_call 46; (with_reducible refine (laws_toIntS.calls k1 _ _ (rd_L2 l0 x4_1) t130 _ ?side1 ?side2 A8.out).mono ?_); (case side1 => exact zC (Kd.C_below HR129_0.out HB.out)); (case side2 => exact HC129_0.out); rintro e w11 ⟨v131, rfl, ho0, hb⟩; replace HO_3 := aM (Kd.S_elder' (by (with_reducible repeat (first | apply Kd.S_alloc | apply Kd.S_drewN | apply Kd.S_drew)); exact HO_3.out) (Kd.R_base ho0) hb); have HO132 := aM (Kd.R_lower ho0 (below_size zH)); replace HB := cH HB hb; (try clear hb); (try clear hk); (try clear ho0); have p10 : 0 ≤ (x4_1 : Int) := zA; have q10 : (x4_1 : Int) < ((x3_1.length : Int) : Int) := zA; obtain ⟨go10, co10, eo10, gb10, gl10, cl10, HG10⟩ := Kd.S_form HO_3.out (by omega); (first | cases eo10 | (injection eo10 with ea_ en_ ec_; (first | subst ea_ | (injection ea_ with ea_; subst ea_)); subst ec_; clear en_)); have GB10 := aM gb10; have GG10 := aM HG10; clear gb10 gl10 HG10; obtain ⟨_, ce10, hcl10, hM10, hcc10, hfr10, _, _⟩ := Kd.S_elem HO_3.out [] (x4_1 : Int) p10 q10; obtain ⟨ve10_0, rfl, ge10_0⟩ := hM10; have hx10_0 := hcc10 0 _ rfl; have hf10_0 := hfr10 0; (try simp only [show ((Kd.slice 3 (Kd.int .i64))).sz = 1 from rfl, Nat.mul_one, Nat.add_zero] at hx10_0); (try simp only [show ((Kd.slice 3 (Kd.int .i64))).sz = 1 from rfl, Nat.mul_one, Nat.add_zero] at hf10_0); (try clear hcl10); (try clear hcc10); (try clear hfr10); (try clear hM10); replace p10 := eq_true p10; replace q10 := eq_true q10; have n_ := aM (Kd.S_mono (ok' := (fun k_ => some k_ ≠ (v131 : Value).ownBlock)) HO_3.out (fun k_ hk => hk.2)); clear HO_3; have HO_3 := n_; clear n_; have HX12 := aM (show Kd.S (Kd.slice 3 (Kd.int .i64)) 55 w11 w.heap.size (fun k_ => ((fun _ => True)) k_ ∧ ¬ ((fun k_ => some k_ = (v131 : Value).ownBlock)) k_) (.slice (some ⟨go10, 0, none⟩) x3_1.length co10) x3_1 from (by (with_reducible repeat (first | apply Kd.S_alloc | apply Kd.S_drewN | apply Kd.S_drew)); exact Kd.S_mono HO_3.out (fun k_ hk => ⟨trivial, fun e_ => hk e_⟩))); obtain ⟨oki12, ce12, hcl12, hM12, hcc12, hfr12, hoki12, hH12⟩ := Kd.S_elem HX12.out [] (x4_1 : Int) (zA) (by have h_ : (x4_1 : Int) < ((x3_1.length : Int) : Int) := zA; first | exact h_ | (have e_ := (Kd.S_reads' HO_3.out).1; omega) | simpa using h_); obtain ⟨ve12_0, rfl, ge12_0⟩ := hM12; have HP12 := Kd.S_seg hH12 (zA) (by have h_ : (x4_1 : Int) < ((x3_1.length : Int) : Int) := zA; first | exact h_ | (have e_ := (Kd.S_reads' HO_3.out).1; omega) | simpa using h_) (seg := [v131]) (j := 0) (show 1 ≤ 1 from by decide) (x' := t130) (Kd.M_row (Kd.R_mono (Kd.R_tight rfl (Kd.R_mono (ok' := fun k_ => ((fun _ => True)) k_ ∧ k_ ≠ go10) (Kd.R_apart' (HO132.out) (Kd.S_typed HO_3.out) (by decide)) (fun k_ hk => ⟨trivial, fun e_ => (hk.2) (by rw [e_]; rfl)⟩))) (fun _ h_ => Or.inr (h_)))) (fun _ hk => hk) (fun k_ hk_ => ((Kd.R_mono (ok' := fun k_ => ((fun _ => True)) k_ ∧ k_ ≠ go10) (Kd.R_apart' (HO132.out) (Kd.S_typed HO_3.out) (by decide)) (fun k_ hk => ⟨trivial, fun e_ => (hk.2) (by rw [e_]; rfl)⟩))).1 k_ hk_.symm); have hx12_0 := hcc12 0 _ rfl; (try simp only [show ((Kd.slice 3 (Kd.int .i64))).sz = 1 from rfl, Nat.mul_one, Nat.add_zero] at hx12_0); have hf12_0 := hfr12 0; (try simp only [show ((Kd.slice 3 (Kd.int .i64))).sz = 1 from rfl, Nat.mul_one, Nat.add_zero] at hf12_0); (try clear hcl12); (try clear hcc12); (try clear hfr12); (try clear hM12); (try clear hoki12); (try clear hH12); (try simp only [show ((Kd.slice 3 (Kd.int .i64))).sz = 1 from rfl, Nat.mul_one, Nat.add_zero] at HP12)) | ((with_reducible refine gate_store (t := 55) (p := 21) rfl ?_); refine store_event (t := 55) (p := 21) (v := ?vo_w13) (w1 := (w11.setCell ⟨go10, (x4_1 : Int).toNat, none⟩ (v131))) ?hg ?ho ?hn ?hr ?_; (case ho => rfl); (case hg => rfl); (case hn => rfl); (case hr => first | (go_simp; done) | (go_simp; rfl) | (obtain ⟨A_, n_, c_, e_⟩ := (show ∃ A n c, v131 = Value.slice A n c from by first | with_reducible exact rowSlice HO132 | with_reducible exact rowSliceS HO132 | with_reducible exact rowSlice (by assumption)); subst e_; go_simp; done) | (obtain ⟨A_, n_, c_, e_⟩ := (show ∃ A n c, v131 = Value.slice A n c from by first | with_reducible exact rowSlice HO132 | with_reducible exact rowSliceS HO132 | with_reducible exact rowSlice (by assumption)); subst e_; go_simp; rfl)); intro w13 hw; have hg : w11.grownBy w13 (some go10) := (by rw [hw]; exact HP12.2); have hp_ : Kd.S (Kd.slice 3 (Kd.int .i64)) 55 w13 w.heap.size (fun _ => True) (.slice (some ⟨go10, 0, none⟩) x3_1.length co10) y133 := (by rw [hw, Ny133.out]; exact HP12.1); clear HP12; replace HO_3 := aM (hp_); replace HB := aM ((by rw [hw]; exact bS (HB.out) GB10.out : Below w.heap.size w w13)); clear HO132; clear hg hw hp_))
        go_roundg k1
        case measure => have := HK1.out; omega
        case rel => exact ⟨(y133), (wrap64 (x4_1 + 1)), zS, H', ⟨by have := HK1.out; omega⟩, ⟨by (with_reducible repeat (first | apply Kd.S_alloc | apply Kd.S_drewN | apply Kd.S_drew)); exact HO_3.out⟩, ⟨zH⟩⟩
       ·rw [if_neg c9] at H
        exact absurd H (by simp)
      ·rw [if_neg c7] at H
       exact absurd H (by simp)
     ·rw [if_neg c6] at H
      have c6b0 : decide (x4_1 < (l0.length : Int)) = false := decide_eq_false c6
      clear c6
      obtain rfl := Option.some.inj H
      go_wp2
      go_ret
      exact ⟨_, zR, by (with_reducible repeat (first | apply Kd.S_alloc | apply Kd.S_drewN | apply Kd.S_drew)); exact HO_3.out, zH⟩
  ·rw [if_neg c3] at H
   exact absurd H (by simp)
 ·rw [if_neg c2] at H
  exact absurd H (by simp)

theorem toIntSS_l0 (l : List (List Int)) (hl : l.length ≤ 1048576) (hx : ∀ x ∈ l, x.length ≤ 1048576) : ∀ (d i : Nat) (m : List (List Int)), i + d = l.length → m.length = l.length → m.take i = l.take i → Ev (fun k => laws_toIntSS.l0 k l m i) l := by
  intro d
  induction d with
  | zero =>
    intro i m hi hm ht
    refine Ev.step (fun k => by rw [laws_toIntSS.l0]) ?_
    rw [List.take_of_length_le (by omega), List.take_of_length_le (by omega)] at ht
    subst ht
    exact evNeg (by omega) (Ev.now _)
  | succ d ih =>
    intro i m hi hm ht
    have h1 : i < l.length := by omega
    refine Ev.step (fun k => by rw [laws_toIntSS.l0]) ?_
    refine evPos (by omega) (evPos (by omega) ?_)
    rw [rdSS_nat h1]
    refine evBind (toIntS_f _ (hx _ (List.getElem_mem h1))) (evPos (by omega) ?_)
    rw [w64 (by omega) (by omega), Int.toNat_natCast]
    refine ih (i + 1) _ (by omega) (by simp [hm]) ?_
    rw [List.take_succ_eq_append_getElem (by simp; omega), List.take_succ_eq_append_getElem h1, List.take_set_of_le (Nat.le_refl _), ht]
    simp
theorem toIntSS_f (l : List (List Int)) (hl : l.length ≤ 1048576) (hx : ∀ x ∈ l, x.length ≤ 1048576) : Ev (fun k => laws_toIntSS.f k l) l := by
  unfold laws_toIntSS.f
  refine evPos (by omega) (evPos (by omega) ?_)
  exact toIntSS_l0 l hl hx l.length 0 _ (by omega) (by simp) (by simp)

end Go.Proofs.Ytpcfjobojdldnaa.CV
