/- Functions that a law of this seat reaches: written by a program of this session (wip/xprint.py), and by hand. -/
import Derived.Test.YtpcfjobojdldnaaYMac
import Derived.Test.YtpcfjobojdldnaaYCVx0
import Derived.Test.YtpcfjobojdldnaaYCVx4
import Derived.Test.YtpcfjobojdldnaaYCVx5
import Derived.Test.YtpcfjobojdldnaaYCVx8
import Derived.Test.YtpcfjobojdldnaaYCVx11
namespace Go.Proofs.Ytpcfjobojdldnaa.CV
open Go.RowKit Go.Proofs.Ytpcfjobojdldnaa.B Go.Proofs.YtpcfjobojdldnaaW.PrintWords Go.Proofs.YtpcfjobojdldnaaW.PrintLast Go.Proofs.YtpcfjobojdldnaaW.PrintMore
attribute [local go_sem] max2_int min2_int max_two min_two max_three min_three max_four min_four   -- for this text's walks alone
set_option linter.unusedVariables false
set_option linter.unusedSimpArgs false

/-! ### spec_StreamOk: function 5 -/
mutual
def spec_StreamOk.j0 : Nat → Bool → Int → Int → Int → Int → List (S74) → List (List Int) → List (List (List Int)) → Int → List (S86) → List Int → Option (Bool)
  | 0, _, _, _, _, _, _, _, _, _, _, _ => none
  | k + 1, x41, x298000, x298001, x298002, x298003, x298004, x298005, x298006, x298007, x298008, x298009 => if x41 = true then (some false) else (spec_StreamOk.l0 k 0 x298000 x298001 x298002 x298003 x298004 x298005 x298006 x298007 x298008 x298009)
def spec_StreamOk.l0 : Nat → Int → Int → Int → Int → Int → List (S74) → List (List Int) → List (List (List Int)) → Int → List (S86) → List Int → Option (Bool)
  | 0, _, _, _, _, _, _, _, _, _, _, _ => none
  | k + 1, x3, x298000, x298001, x298002, x298003, x298004, x298005, x298006, x298007, x298008, x298009 => if x3 < 4 then (if 0 ≤ x3 then (if x3 < (x298005.length : Int) then ((spec_TableOk.f k (rd_L2 x298005 x3)).bind fun t303 => (if t303 = true then (spec_StreamOk.l0 k (wrap64 (x3 + 1)) x298000 x298001 x298002 x298003 x298004 x298005 x298006 x298007 x298008 x298009) else (some false))) else (none)) else (none)) else (some true)
end
def spec_StreamOk.f (k : Nat) (a0_0 : Int) (a0_1 : Int) (a0_2 : Int) (a0_3 : Int) (l0_4 : List (S74)) (l0_5 : List (List Int)) (l0_6 : List (List (List Int))) (a0_7 : Int) (l0_8 : List (S86)) (l0_9 : List Int) : Option (Bool) := (spec_FrameOk.f k a0_0 a0_1 a0_2 a0_3 l0_4).bind fun t298 => (if t298 = true then (if (l0_5.length : Int) = 4 then ((spec_CoefsOk.f k a0_0 a0_1 a0_2 a0_3 l0_4 l0_6).bind fun t299 => (if t299 = true then ((spec_l01Between.f a0_7 0 1).bind fun t300 => (if t300 = true then ((spec_ScriptOk.f k a0_0 a0_1 a0_2 a0_3 l0_4 l0_8).bind fun t301 => (if t301 = true then (spec_StreamOk.j0 k (decide ((l0_9.length : Int) > 1000)) a0_0 a0_1 a0_2 a0_3 l0_4 l0_5 l0_6 a0_7 l0_8 l0_9) else (spec_StreamOk.j0 k true a0_0 a0_1 a0_2 a0_3 l0_4 l0_5 l0_6 a0_7 l0_8 l0_9))) else (spec_StreamOk.j0 k true a0_0 a0_1 a0_2 a0_3 l0_4 l0_5 l0_6 a0_7 l0_8 l0_9))) else (spec_StreamOk.j0 k true a0_0 a0_1 a0_2 a0_3 l0_4 l0_5 l0_6 a0_7 l0_8 l0_9))) else (spec_StreamOk.j0 k true a0_0 a0_1 a0_2 a0_3 l0_4 l0_5 l0_6 a0_7 l0_8 l0_9)) else (spec_StreamOk.j0 k true a0_0 a0_1 a0_2 a0_3 l0_4 l0_5 l0_6 a0_7 l0_8 l0_9))
theorem spec_StreamOk.mono_l : ∀ k, (∀ y0 y1 y2 y3 y4 y5 y6 y7 y8 y9 y10, LeO (spec_StreamOk.j0 k y0 y1 y2 y3 y4 y5 y6 y7 y8 y9 y10) (spec_StreamOk.j0 (k + 1) y0 y1 y2 y3 y4 y5 y6 y7 y8 y9 y10)) ∧ (∀ y0 y1 y2 y3 y4 y5 y6 y7 y8 y9 y10, LeO (spec_StreamOk.l0 k y0 y1 y2 y3 y4 y5 y6 y7 y8 y9 y10) (spec_StreamOk.l0 (k + 1) y0 y1 y2 y3 y4 y5 y6 y7 y8 y9 y10))
 | 0 => ⟨fun _ _ _ _ _ _ _ _ _ _ _ r h => by simp [spec_StreamOk.j0] at h, fun _ _ _ _ _ _ _ _ _ _ _ r h => by simp [spec_StreamOk.l0] at h⟩
 | k + 1 => by
  obtain ⟨ih0, ih1⟩ := spec_StreamOk.mono_l k
  refine ⟨?_, ?_⟩
  ·intro y0 y1 y2 y3 y4 y5 y6 y7 y8 y9 y10
   unfold spec_StreamOk.j0
   repeat' first
   | (with_reducible exact ih0 _ _ _ _ _ _ _ _ _ _ _)
   | (with_reducible exact ih1 _ _ _ _ _ _ _ _ _ _ _)
   | (with_reducible exact spec_CoefsOk.mono _ _ _ _ _ _ _)
   | (with_reducible exact spec_FrameOk.mono _ _ _ _ _ _)
   | (with_reducible exact spec_ScriptOk.mono _ _ _ _ _ _ _)
   | (with_reducible exact spec_TableOk.mono _ _)
   | (with_reducible exact LeO.refl _)
   | (with_reducible exact LeO.none _)
   | (with_reducible refine LeO.ite ?_ ?_)
   | (with_reducible refine LeO.bind ?_ (fun _ => ?_))
   | exact ih0 _ _ _ _ _ _ _ _ _ _ _
   | exact ih1 _ _ _ _ _ _ _ _ _ _ _
   | exact spec_CoefsOk.mono _ _ _ _ _ _ _
   | exact spec_FrameOk.mono _ _ _ _ _ _
   | exact spec_ScriptOk.mono _ _ _ _ _ _ _
   | exact spec_TableOk.mono _ _
   | exact LeO.none _
   | refine LeO.ite ?_ ?_
   | refine LeO.bind ?_ (fun _ => ?_)
  ·intro y0 y1 y2 y3 y4 y5 y6 y7 y8 y9 y10
   unfold spec_StreamOk.l0
   repeat' first
   | (with_reducible exact ih0 _ _ _ _ _ _ _ _ _ _ _)
   | (with_reducible exact ih1 _ _ _ _ _ _ _ _ _ _ _)
   | (with_reducible exact spec_CoefsOk.mono _ _ _ _ _ _ _)
   | (with_reducible exact spec_FrameOk.mono _ _ _ _ _ _)
   | (with_reducible exact spec_ScriptOk.mono _ _ _ _ _ _ _)
   | (with_reducible exact spec_TableOk.mono _ _)
   | (with_reducible exact LeO.refl _)
   | (with_reducible exact LeO.none _)
   | (with_reducible refine LeO.ite ?_ ?_)
   | (with_reducible refine LeO.bind ?_ (fun _ => ?_))
   | exact ih0 _ _ _ _ _ _ _ _ _ _ _
   | exact ih1 _ _ _ _ _ _ _ _ _ _ _
   | exact spec_CoefsOk.mono _ _ _ _ _ _ _
   | exact spec_FrameOk.mono _ _ _ _ _ _
   | exact spec_ScriptOk.mono _ _ _ _ _ _ _
   | exact spec_TableOk.mono _ _
   | exact LeO.none _
   | refine LeO.ite ?_ ?_
   | refine LeO.bind ?_ (fun _ => ?_)
theorem spec_StreamOk.mono : ∀ a0 a1 a2 a3 a4 a5 a6 a7 a8 a9 k, LeO (spec_StreamOk.f k a0 a1 a2 a3 a4 a5 a6 a7 a8 a9) (spec_StreamOk.f (k + 1) a0 a1 a2 a3 a4 a5 a6 a7 a8 a9) := by
 intro a0 a1 a2 a3 a4 a5 a6 a7 a8 a9 k
 obtain ⟨ih0, ih1⟩ := spec_StreamOk.mono_l k
 unfold spec_StreamOk.f
 repeat' first
   | (with_reducible exact ih0 _ _ _ _ _ _ _ _ _ _ _)
   | (with_reducible exact ih1 _ _ _ _ _ _ _ _ _ _ _)
   | (with_reducible exact spec_CoefsOk.mono _ _ _ _ _ _ _)
   | (with_reducible exact spec_FrameOk.mono _ _ _ _ _ _)
   | (with_reducible exact spec_ScriptOk.mono _ _ _ _ _ _ _)
   | (with_reducible exact spec_TableOk.mono _ _)
   | (with_reducible exact LeO.refl _)
   | (with_reducible exact LeO.none _)
   | (with_reducible refine LeO.ite ?_ ?_)
   | (with_reducible refine LeO.bind ?_ (fun _ => ?_))
   | exact ih0 _ _ _ _ _ _ _ _ _ _ _
   | exact ih1 _ _ _ _ _ _ _ _ _ _ _
   | exact spec_CoefsOk.mono _ _ _ _ _ _ _
   | exact spec_FrameOk.mono _ _ _ _ _ _
   | exact spec_ScriptOk.mono _ _ _ _ _ _ _
   | exact spec_TableOk.mono _ _
   | exact LeO.none _
   | refine LeO.ite ?_ ?_
   | refine LeO.bind ?_ (fun _ => ?_)
set_option maxHeartbeats 8000000 in
set_option maxRecDepth 100000 in
theorem spec_StreamOk.calls (k : Nat) (a0_0 : Int) (a0_1 : Int) (a0_2 : Int) (a0_3 : Int) (A0_4 : Option Addr) (c0_4 : Nat) (l0_4 : List (S74)) (A0_5 : Option Addr) (c0_5 : Nat) (l0_5 : List (List Int)) (A0_6 : Option Addr) (c0_6 : Nat) (l0_6 : List (List (List Int))) (a0_7 : Int) (A0_8 : Option Addr) (c0_8 : Nat) (l0_8 : List (S86)) (A0_9 : Option Addr) (c0_9 : Nat) (l0_9 : List Int) (r : Bool) (w : World) (hr0_4 : Kd.C k74 w A0_4 l0_4.length l0_4) (hc0_4 : l0_4.length ≤ c0_4) (hr0_5 : Kd.C (Kd.slice 3 (Kd.int .i64)) w A0_5 l0_5.length l0_5) (hc0_5 : l0_5.length ≤ c0_5) (hr0_6 : Kd.C (Kd.slice 55 (Kd.slice 3 (Kd.int .i64))) w A0_6 l0_6.length l0_6) (hc0_6 : l0_6.length ≤ c0_6) (hr0_8 : Kd.C k86 w A0_8 l0_8.length l0_8) (hc0_8 : l0_8.length ≤ c0_8) (hr0_9 : Kd.C (Kd.int .u8) w A0_9 l0_9.length l0_9) (hc0_9 : l0_9.length ≤ c0_9) (h : spec_StreamOk.f k a0_0 a0_1 a0_2 a0_3 l0_4 l0_5 l0_6 a0_7 l0_8 l0_9 = some r) :
  Calls Try.prog 5 #[.agg #[.int .i64 a0_0, .int .i64 a0_1, .int .i64 a0_2, .int .i64 a0_3, .slice A0_4 l0_4.length c0_4, .slice A0_5 l0_5.length c0_5, .slice A0_6 l0_6.length c0_6, .int .i64 a0_7, .slice A0_8 l0_8.length c0_8, .slice A0_9 l0_9.length c0_9]] w fun e w' => e = .returned (.bool r) ∧ Below w.heap.size w w' := by
 have hu41 := Try.underlying41
 have hu37 := Try.underlying37
 have hu38 := Try.underlying38
 have HR0_4 := aM hr0_4
 have HC0_4 := aM hc0_4
 clear hr0_4 hc0_4
 have HR0_5 := aM hr0_5
 have HC0_5 := aM hc0_5
 clear hr0_5 hc0_5
 have HR0_6 := aM hr0_6
 have HC0_6 := aM hc0_6
 clear hr0_6 hc0_6
 have HR0_8 := aM hr0_8
 have HC0_8 := aM hc0_8
 clear hr0_8 hc0_8
 have HR0_9 := aM hr0_9
 have HC0_9 := aM hc0_9
 clear hr0_9 hc0_9
 have HB := aM (Below.refl w.heap.size w)
 have H : ((spec_FrameOk.f k a0_0 a0_1 a0_2 a0_3 l0_4).bind fun t298 => (if t298 = true then (if (l0_5.length : Int) = 4 then ((spec_CoefsOk.f k a0_0 a0_1 a0_2 a0_3 l0_4 l0_6).bind fun t299 => (if t299 = true then ((spec_l01Between.f a0_7 0 1).bind fun t300 => (if t300 = true then ((spec_ScriptOk.f k a0_0 a0_1 a0_2 a0_3 l0_4 l0_8).bind fun t301 => (if t301 = true then (spec_StreamOk.j0 k (decide ((l0_9.length : Int) > 1000)) a0_0 a0_1 a0_2 a0_3 l0_4 l0_5 l0_6 a0_7 l0_8 l0_9) else (spec_StreamOk.j0 k true a0_0 a0_1 a0_2 a0_3 l0_4 l0_5 l0_6 a0_7 l0_8 l0_9))) else (spec_StreamOk.j0 k true a0_0 a0_1 a0_2 a0_3 l0_4 l0_5 l0_6 a0_7 l0_8 l0_9))) else (spec_StreamOk.j0 k true a0_0 a0_1 a0_2 a0_3 l0_4 l0_5 l0_6 a0_7 l0_8 l0_9))) else (spec_StreamOk.j0 k true a0_0 a0_1 a0_2 a0_3 l0_4 l0_5 l0_6 a0_7 l0_8 l0_9)) else (spec_StreamOk.j0 k true a0_0 a0_1 a0_2 a0_3 l0_4 l0_5 l0_6 a0_7 l0_8 l0_9))) = some r := h
 clear h
 have HC2 := aM H
 clear H
 go_enter Try.func5, Try.ntmps5
 go_upto_region 1 with (first | ((with_reducible refine gate_dst (N := 1) rfl ?_); (try (refine gate_guard (by rfl) ?_; dsimp only)); refine box_event ?hg (N := 1) ?hd (cs := #[.int .i64 a0_0, .int .i64 a0_1, .int .i64 a0_2, .int .i64 a0_3, .slice A0_4 l0_4.length c0_4, .slice A0_5 l0_5.length c0_5, .slice A0_6 l0_6.length c0_6, .int .i64 a0_7, .slice A0_8 l0_8.length c0_8, .slice A0_9 l0_9.length c0_9]) (t := 41) ?hr ?_; (case hd => rfl); (case hg => rfl); (case hr => first | (go_simp; done) | (go_simp; rfl)); intro gb297 hg w3 hbox hb; have BK297 := aM hbox; have GW297 := aM (zG hg : w.heap.size ≤ gb297); have GE297 := aM (zG hg : w.heap.size ≤ gb297); replace HB := cH HB hb; clear hb hbox hg))
 (try simp only [Act.put, List.setIfInBounds_toArray, List.set_cons_zero, List.set_cons_succ])
 go_cut [41] (fun v41 wc => ∃ (kq : Nat) (x41_1 : Bool), v41 = .bool x41_1 ∧ Aside0 (spec_StreamOk.j0 kq x41_1 a0_0 a0_1 a0_2 a0_3 l0_4 l0_5 l0_6 a0_7 l0_8 l0_9 = some r) ∧ Aside0 (kq ≤ k) ∧ Aside0 (wc.heap[gb297]? = some (.cells #[.int .i64 a0_0, .int .i64 a0_1, .int .i64 a0_2, .int .i64 a0_3, (.slice A0_4 l0_4.length c0_4), (.slice A0_5 l0_5.length c0_5), (.slice A0_6 l0_6.length c0_6), .int .i64 a0_7, (.slice A0_8 l0_8.length c0_8), (.slice A0_9 l0_9.length c0_9)] 41 (0, 0))) ∧ Aside0 (Below w.heap.size w wc))
 case first =>
  have H := HC2.out
  clear HC2
  obtain ⟨t298, A4, H⟩ := oH H
  by_cases c5 : t298 = true
  ·subst c5
   replace H := iT H
   by_cases c6 : (l0_5.length : Int) = 4
   ·rw [if_pos c6] at H
    have c6b0 : ((l0_5.length : Int) == 4) = true := beq_iff_eq.mpr c6
    have c6b1 : ((l0_5.length : Int) != 4) = false := bne_eq_false_iff_eq.mpr c6
    clear c6
    (first | rw [c6b0] | (simp only [i64_w, i32_w]; rw [c6b0]) | skip)
    obtain ⟨t299, A7, H⟩ := oH H
    by_cases c8 : t299 = true
    ·subst c8
     replace H := iT H
     obtain ⟨t300, A9, H⟩ := oH H
     by_cases c10 : t300 = true
     ·subst c10
      replace H := iT H
      obtain ⟨t301, A11, H⟩ := oH H
      by_cases c12 : t301 = true
      ·subst c12
       replace H := iT H
       have H' := aM H
       clear H
       have hcz13_0 : w3.cell? ⟨gb297, 0, none⟩ = some (.int .i64 a0_0) := (kC BK297.out 0).trans rfl
       have hcz13_1 : w3.cell? ⟨gb297, 1, none⟩ = some (.int .i64 a0_1) := (kC BK297.out 1).trans rfl
       have hcz13_2 : w3.cell? ⟨gb297, 2, none⟩ = some (.int .i64 a0_2) := (kC BK297.out 2).trans rfl
       have hcz13_3 : w3.cell? ⟨gb297, 3, none⟩ = some (.int .i64 a0_3) := (kC BK297.out 3).trans rfl
       have hcz13_4 : w3.cell? ⟨gb297, 4, none⟩ = some (.slice A0_4 l0_4.length c0_4) := (kC BK297.out 4).trans rfl
       have hcz13_5 : w3.cell? ⟨gb297, 5, none⟩ = some (.slice A0_5 l0_5.length c0_5) := (kC BK297.out 5).trans rfl
       have hcz13_6 : w3.cell? ⟨gb297, 6, none⟩ = some (.slice A0_6 l0_6.length c0_6) := (kC BK297.out 6).trans rfl
       have hcz13_7 : w3.cell? ⟨gb297, 7, none⟩ = some (.int .i64 a0_7) := (kC BK297.out 7).trans rfl
       have hcz13_8 : w3.cell? ⟨gb297, 8, none⟩ = some (.slice A0_8 l0_8.length c0_8) := (kC BK297.out 8).trans rfl
       have hcz13_9 : w3.cell? ⟨gb297, 9, none⟩ = some (.slice A0_9 l0_9.length c0_9) := (kC BK297.out 9).trans rfl
       go_wp2_with (first | (go_at_call 14; (with_reducible refine (spec_FrameOk.calls k a0_0 a0_1 a0_2 a0_3 _ _ l0_4 true _ ?side1 ?side2 A4.out).mono ?_); (case side1 => exact zC (Kd.C_below HR0_4.out HB.out)); (case side2 => exact HC0_4.out); rintro e w14 ⟨rfl, hb⟩; replace BK297 := cB BK297 hb; replace HB := cH HB hb; (try clear hb); have hcz15_0 : w14.cell? ⟨gb297, 0, none⟩ = some (.int .i64 a0_0) := (kC BK297.out 0).trans rfl; have hcz15_1 : w14.cell? ⟨gb297, 1, none⟩ = some (.int .i64 a0_1) := (kC BK297.out 1).trans rfl; have hcz15_2 : w14.cell? ⟨gb297, 2, none⟩ = some (.int .i64 a0_2) := (kC BK297.out 2).trans rfl; have hcz15_3 : w14.cell? ⟨gb297, 3, none⟩ = some (.int .i64 a0_3) := (kC BK297.out 3).trans rfl; have hcz15_4 : w14.cell? ⟨gb297, 4, none⟩ = some (.slice A0_4 l0_4.length c0_4) := (kC BK297.out 4).trans rfl; have hcz15_5 : w14.cell? ⟨gb297, 5, none⟩ = some (.slice A0_5 l0_5.length c0_5) := (kC BK297.out 5).trans rfl; have hcz15_6 : w14.cell? ⟨gb297, 6, none⟩ = some (.slice A0_6 l0_6.length c0_6) := (kC BK297.out 6).trans rfl; have hcz15_7 : w14.cell? ⟨gb297, 7, none⟩ = some (.int .i64 a0_7) := (kC BK297.out 7).trans rfl; have hcz15_8 : w14.cell? ⟨gb297, 8, none⟩ = some (.slice A0_8 l0_8.length c0_8) := (kC BK297.out 8).trans rfl; have hcz15_9 : w14.cell? ⟨gb297, 9, none⟩ = some (.slice A0_9 l0_9.length c0_9) := (kC BK297.out 9).trans rfl; have hfz15_0 := blk_frozen BK297.out 0; have hfz15_1 := blk_frozen BK297.out 1; have hfz15_2 := blk_frozen BK297.out 2; have hfz15_3 := blk_frozen BK297.out 3; have hfz15_4 := blk_frozen BK297.out 4; have hfz15_5 := blk_frozen BK297.out 5; have hfz15_6 := blk_frozen BK297.out 6; have hfz15_7 := blk_frozen BK297.out 7; have hfz15_8 := blk_frozen BK297.out 8; have hfz15_9 := blk_frozen BK297.out 9) | (go_at_call 15; (with_reducible refine (spec_CoefsOk.calls k a0_0 a0_1 a0_2 a0_3 _ _ l0_4 _ _ l0_6 true _ ?side1 ?side2 ?side3 ?side4 A7.out).mono ?_); (case side1 => exact zC (Kd.C_below HR0_4.out HB.out)); (case side2 => exact HC0_4.out); (case side3 => exact zC (Kd.C_below HR0_6.out HB.out)); (case side4 => exact HC0_6.out); rintro e w16 ⟨rfl, hb⟩; replace BK297 := cB BK297 hb; replace HB := cH HB hb; (try clear hb); have hcz17_0 : w16.cell? ⟨gb297, 0, none⟩ = some (.int .i64 a0_0) := (kC BK297.out 0).trans rfl; have hcz17_1 : w16.cell? ⟨gb297, 1, none⟩ = some (.int .i64 a0_1) := (kC BK297.out 1).trans rfl; have hcz17_2 : w16.cell? ⟨gb297, 2, none⟩ = some (.int .i64 a0_2) := (kC BK297.out 2).trans rfl; have hcz17_3 : w16.cell? ⟨gb297, 3, none⟩ = some (.int .i64 a0_3) := (kC BK297.out 3).trans rfl; have hcz17_4 : w16.cell? ⟨gb297, 4, none⟩ = some (.slice A0_4 l0_4.length c0_4) := (kC BK297.out 4).trans rfl; have hcz17_5 : w16.cell? ⟨gb297, 5, none⟩ = some (.slice A0_5 l0_5.length c0_5) := (kC BK297.out 5).trans rfl; have hcz17_6 : w16.cell? ⟨gb297, 6, none⟩ = some (.slice A0_6 l0_6.length c0_6) := (kC BK297.out 6).trans rfl; have hcz17_7 : w16.cell? ⟨gb297, 7, none⟩ = some (.int .i64 a0_7) := (kC BK297.out 7).trans rfl; have hcz17_8 : w16.cell? ⟨gb297, 8, none⟩ = some (.slice A0_8 l0_8.length c0_8) := (kC BK297.out 8).trans rfl; have hcz17_9 : w16.cell? ⟨gb297, 9, none⟩ = some (.slice A0_9 l0_9.length c0_9) := (kC BK297.out 9).trans rfl; have hfz17_0 := blk_frozen BK297.out 0; have hfz17_1 := blk_frozen BK297.out 1; have hfz17_2 := blk_frozen BK297.out 2; have hfz17_3 := blk_frozen BK297.out 3; have hfz17_4 := blk_frozen BK297.out 4; have hfz17_5 := blk_frozen BK297.out 5; have hfz17_6 := blk_frozen BK297.out 6; have hfz17_7 := blk_frozen BK297.out 7; have hfz17_8 := blk_frozen BK297.out 8; have hfz17_9 := blk_frozen BK297.out 9) | (go_at_call 16; (with_reducible refine (spec_l01Between.calls a0_7 0 1 true _ A9.out).mono ?_); rintro e w' ⟨rfl, ⟨nd, rfl⟩⟩) | (go_at_call 17; (with_reducible refine (spec_ScriptOk.calls k a0_0 a0_1 a0_2 a0_3 _ _ l0_4 _ _ l0_8 true _ ?side1 ?side2 ?side3 ?side4 A11.out).mono ?_); (case side1 => exact zC (Kd.C_below HR0_4.out zH)); (case side2 => exact HC0_4.out); (case side3 => exact zC (Kd.C_below HR0_8.out zH)); (case side4 => exact HC0_8.out); rintro e w18 ⟨rfl, hb⟩; replace BK297 := cB BK297 hb; replace HB := cH HB hb; (try clear hb); have hcz19_0 : w18.cell? ⟨gb297, 0, none⟩ = some (.int .i64 a0_0) := (kC BK297.out 0).trans rfl; have hcz19_1 : w18.cell? ⟨gb297, 1, none⟩ = some (.int .i64 a0_1) := (kC BK297.out 1).trans rfl; have hcz19_2 : w18.cell? ⟨gb297, 2, none⟩ = some (.int .i64 a0_2) := (kC BK297.out 2).trans rfl; have hcz19_3 : w18.cell? ⟨gb297, 3, none⟩ = some (.int .i64 a0_3) := (kC BK297.out 3).trans rfl; have hcz19_4 : w18.cell? ⟨gb297, 4, none⟩ = some (.slice A0_4 l0_4.length c0_4) := (kC BK297.out 4).trans rfl; have hcz19_5 : w18.cell? ⟨gb297, 5, none⟩ = some (.slice A0_5 l0_5.length c0_5) := (kC BK297.out 5).trans rfl; have hcz19_6 : w18.cell? ⟨gb297, 6, none⟩ = some (.slice A0_6 l0_6.length c0_6) := (kC BK297.out 6).trans rfl; have hcz19_7 : w18.cell? ⟨gb297, 7, none⟩ = some (.int .i64 a0_7) := (kC BK297.out 7).trans rfl; have hcz19_8 : w18.cell? ⟨gb297, 8, none⟩ = some (.slice A0_8 l0_8.length c0_8) := (kC BK297.out 8).trans rfl; have hcz19_9 : w18.cell? ⟨gb297, 9, none⟩ = some (.slice A0_9 l0_9.length c0_9) := (kC BK297.out 9).trans rfl; have hfz19_0 := blk_frozen BK297.out 0; have hfz19_1 := blk_frozen BK297.out 1; have hfz19_2 := blk_frozen BK297.out 2; have hfz19_3 := blk_frozen BK297.out 3; have hfz19_4 := blk_frozen BK297.out 4; have hfz19_5 := blk_frozen BK297.out 5; have hfz19_6 := blk_frozen BK297.out 6; have hfz19_7 := blk_frozen BK297.out 7; have hfz19_8 := blk_frozen BK297.out 8; have hfz19_9 := blk_frozen BK297.out 9))
       go_meet
       case rel => exact ⟨_, (decide ((l0_9.length : Int) > 1000)), zS, H', zO, ⟨zK BK297⟩, ⟨zH⟩⟩
      ·replace c12 := Bool.eq_false_iff.mpr c12
       subst c12
       replace H := iF H
       have H' := aM H
       clear H
       have hcz20_0 : w3.cell? ⟨gb297, 0, none⟩ = some (.int .i64 a0_0) := (kC BK297.out 0).trans rfl
       have hcz20_1 : w3.cell? ⟨gb297, 1, none⟩ = some (.int .i64 a0_1) := (kC BK297.out 1).trans rfl
       have hcz20_2 : w3.cell? ⟨gb297, 2, none⟩ = some (.int .i64 a0_2) := (kC BK297.out 2).trans rfl
       have hcz20_3 : w3.cell? ⟨gb297, 3, none⟩ = some (.int .i64 a0_3) := (kC BK297.out 3).trans rfl
       have hcz20_4 : w3.cell? ⟨gb297, 4, none⟩ = some (.slice A0_4 l0_4.length c0_4) := (kC BK297.out 4).trans rfl
       have hcz20_5 : w3.cell? ⟨gb297, 5, none⟩ = some (.slice A0_5 l0_5.length c0_5) := (kC BK297.out 5).trans rfl
       have hcz20_6 : w3.cell? ⟨gb297, 6, none⟩ = some (.slice A0_6 l0_6.length c0_6) := (kC BK297.out 6).trans rfl
       have hcz20_7 : w3.cell? ⟨gb297, 7, none⟩ = some (.int .i64 a0_7) := (kC BK297.out 7).trans rfl
       have hcz20_8 : w3.cell? ⟨gb297, 8, none⟩ = some (.slice A0_8 l0_8.length c0_8) := (kC BK297.out 8).trans rfl
       have hcz20_9 : w3.cell? ⟨gb297, 9, none⟩ = some (.slice A0_9 l0_9.length c0_9) := (kC BK297.out 9).trans rfl
       go_wp2_with (first | (go_at_call 14; (with_reducible refine (spec_FrameOk.calls k a0_0 a0_1 a0_2 a0_3 _ _ l0_4 true _ ?side1 ?side2 A4.out).mono ?_); (case side1 => exact zC (Kd.C_below HR0_4.out HB.out)); (case side2 => exact HC0_4.out); rintro e w21 ⟨rfl, hb⟩; replace BK297 := cB BK297 hb; replace HB := cH HB hb; (try clear hb); have hcz22_0 : w21.cell? ⟨gb297, 0, none⟩ = some (.int .i64 a0_0) := (kC BK297.out 0).trans rfl; have hcz22_1 : w21.cell? ⟨gb297, 1, none⟩ = some (.int .i64 a0_1) := (kC BK297.out 1).trans rfl; have hcz22_2 : w21.cell? ⟨gb297, 2, none⟩ = some (.int .i64 a0_2) := (kC BK297.out 2).trans rfl; have hcz22_3 : w21.cell? ⟨gb297, 3, none⟩ = some (.int .i64 a0_3) := (kC BK297.out 3).trans rfl; have hcz22_4 : w21.cell? ⟨gb297, 4, none⟩ = some (.slice A0_4 l0_4.length c0_4) := (kC BK297.out 4).trans rfl; have hcz22_5 : w21.cell? ⟨gb297, 5, none⟩ = some (.slice A0_5 l0_5.length c0_5) := (kC BK297.out 5).trans rfl; have hcz22_6 : w21.cell? ⟨gb297, 6, none⟩ = some (.slice A0_6 l0_6.length c0_6) := (kC BK297.out 6).trans rfl; have hcz22_7 : w21.cell? ⟨gb297, 7, none⟩ = some (.int .i64 a0_7) := (kC BK297.out 7).trans rfl; have hcz22_8 : w21.cell? ⟨gb297, 8, none⟩ = some (.slice A0_8 l0_8.length c0_8) := (kC BK297.out 8).trans rfl; have hcz22_9 : w21.cell? ⟨gb297, 9, none⟩ = some (.slice A0_9 l0_9.length c0_9) := (kC BK297.out 9).trans rfl; have hfz22_0 := blk_frozen BK297.out 0; have hfz22_1 := blk_frozen BK297.out 1; have hfz22_2 := blk_frozen BK297.out 2; have hfz22_3 := blk_frozen BK297.out 3; have hfz22_4 := blk_frozen BK297.out 4; have hfz22_5 := blk_frozen BK297.out 5; have hfz22_6 := blk_frozen BK297.out 6; have hfz22_7 := blk_frozen BK297.out 7; have hfz22_8 := blk_frozen BK297.out 8; have hfz22_9 := blk_frozen BK297.out 9) | (go_at_call 15; (with_reducible refine (spec_CoefsOk.calls k a0_0 a0_1 a0_2 a0_3 _ _ l0_4 _ _ l0_6 true _ ?side1 ?side2 ?side3 ?side4 A7.out).mono ?_); (case side1 => exact zC (Kd.C_below HR0_4.out HB.out)); (case side2 => exact HC0_4.out); (case side3 => exact zC (Kd.C_below HR0_6.out HB.out)); (case side4 => exact HC0_6.out); rintro e w23 ⟨rfl, hb⟩; replace BK297 := cB BK297 hb; replace HB := cH HB hb; (try clear hb); have hcz24_0 : w23.cell? ⟨gb297, 0, none⟩ = some (.int .i64 a0_0) := (kC BK297.out 0).trans rfl; have hcz24_1 : w23.cell? ⟨gb297, 1, none⟩ = some (.int .i64 a0_1) := (kC BK297.out 1).trans rfl; have hcz24_2 : w23.cell? ⟨gb297, 2, none⟩ = some (.int .i64 a0_2) := (kC BK297.out 2).trans rfl; have hcz24_3 : w23.cell? ⟨gb297, 3, none⟩ = some (.int .i64 a0_3) := (kC BK297.out 3).trans rfl; have hcz24_4 : w23.cell? ⟨gb297, 4, none⟩ = some (.slice A0_4 l0_4.length c0_4) := (kC BK297.out 4).trans rfl; have hcz24_5 : w23.cell? ⟨gb297, 5, none⟩ = some (.slice A0_5 l0_5.length c0_5) := (kC BK297.out 5).trans rfl; have hcz24_6 : w23.cell? ⟨gb297, 6, none⟩ = some (.slice A0_6 l0_6.length c0_6) := (kC BK297.out 6).trans rfl; have hcz24_7 : w23.cell? ⟨gb297, 7, none⟩ = some (.int .i64 a0_7) := (kC BK297.out 7).trans rfl; have hcz24_8 : w23.cell? ⟨gb297, 8, none⟩ = some (.slice A0_8 l0_8.length c0_8) := (kC BK297.out 8).trans rfl; have hcz24_9 : w23.cell? ⟨gb297, 9, none⟩ = some (.slice A0_9 l0_9.length c0_9) := (kC BK297.out 9).trans rfl; have hfz24_0 := blk_frozen BK297.out 0; have hfz24_1 := blk_frozen BK297.out 1; have hfz24_2 := blk_frozen BK297.out 2; have hfz24_3 := blk_frozen BK297.out 3; have hfz24_4 := blk_frozen BK297.out 4; have hfz24_5 := blk_frozen BK297.out 5; have hfz24_6 := blk_frozen BK297.out 6; have hfz24_7 := blk_frozen BK297.out 7; have hfz24_8 := blk_frozen BK297.out 8; have hfz24_9 := blk_frozen BK297.out 9) | (go_at_call 16; (with_reducible refine (spec_l01Between.calls a0_7 0 1 true _ A9.out).mono ?_); rintro e w' ⟨rfl, ⟨nd, rfl⟩⟩) | (go_at_call 17; (with_reducible refine (spec_ScriptOk.calls k a0_0 a0_1 a0_2 a0_3 _ _ l0_4 _ _ l0_8 false _ ?side1 ?side2 ?side3 ?side4 A11.out).mono ?_); (case side1 => exact zC (Kd.C_below HR0_4.out zH)); (case side2 => exact HC0_4.out); (case side3 => exact zC (Kd.C_below HR0_8.out zH)); (case side4 => exact HC0_8.out); rintro e w25 ⟨rfl, hb⟩; replace BK297 := cB BK297 hb; replace HB := cH HB hb; (try clear hb)))
       go_meet
       case rel => exact ⟨_, (true), zS, H', zO, ⟨zK BK297⟩, ⟨zH⟩⟩
     ·replace c10 := Bool.eq_false_iff.mpr c10
      subst c10
      replace H := iF H
      have H' := aM H
      clear H
      have hcz26_0 : w3.cell? ⟨gb297, 0, none⟩ = some (.int .i64 a0_0) := (kC BK297.out 0).trans rfl
      have hcz26_1 : w3.cell? ⟨gb297, 1, none⟩ = some (.int .i64 a0_1) := (kC BK297.out 1).trans rfl
      have hcz26_2 : w3.cell? ⟨gb297, 2, none⟩ = some (.int .i64 a0_2) := (kC BK297.out 2).trans rfl
      have hcz26_3 : w3.cell? ⟨gb297, 3, none⟩ = some (.int .i64 a0_3) := (kC BK297.out 3).trans rfl
      have hcz26_4 : w3.cell? ⟨gb297, 4, none⟩ = some (.slice A0_4 l0_4.length c0_4) := (kC BK297.out 4).trans rfl
      have hcz26_5 : w3.cell? ⟨gb297, 5, none⟩ = some (.slice A0_5 l0_5.length c0_5) := (kC BK297.out 5).trans rfl
      have hcz26_6 : w3.cell? ⟨gb297, 6, none⟩ = some (.slice A0_6 l0_6.length c0_6) := (kC BK297.out 6).trans rfl
      have hcz26_7 : w3.cell? ⟨gb297, 7, none⟩ = some (.int .i64 a0_7) := (kC BK297.out 7).trans rfl
      have hcz26_8 : w3.cell? ⟨gb297, 8, none⟩ = some (.slice A0_8 l0_8.length c0_8) := (kC BK297.out 8).trans rfl
      have hcz26_9 : w3.cell? ⟨gb297, 9, none⟩ = some (.slice A0_9 l0_9.length c0_9) := (kC BK297.out 9).trans rfl
      go_wp2_with (first | (go_at_call 14; (with_reducible refine (spec_FrameOk.calls k a0_0 a0_1 a0_2 a0_3 _ _ l0_4 true _ ?side1 ?side2 A4.out).mono ?_); (case side1 => exact zC (Kd.C_below HR0_4.out HB.out)); (case side2 => exact HC0_4.out); rintro e w27 ⟨rfl, hb⟩; replace BK297 := cB BK297 hb; replace HB := cH HB hb; (try clear hb); have hcz28_0 : w27.cell? ⟨gb297, 0, none⟩ = some (.int .i64 a0_0) := (kC BK297.out 0).trans rfl; have hcz28_1 : w27.cell? ⟨gb297, 1, none⟩ = some (.int .i64 a0_1) := (kC BK297.out 1).trans rfl; have hcz28_2 : w27.cell? ⟨gb297, 2, none⟩ = some (.int .i64 a0_2) := (kC BK297.out 2).trans rfl; have hcz28_3 : w27.cell? ⟨gb297, 3, none⟩ = some (.int .i64 a0_3) := (kC BK297.out 3).trans rfl; have hcz28_4 : w27.cell? ⟨gb297, 4, none⟩ = some (.slice A0_4 l0_4.length c0_4) := (kC BK297.out 4).trans rfl; have hcz28_5 : w27.cell? ⟨gb297, 5, none⟩ = some (.slice A0_5 l0_5.length c0_5) := (kC BK297.out 5).trans rfl; have hcz28_6 : w27.cell? ⟨gb297, 6, none⟩ = some (.slice A0_6 l0_6.length c0_6) := (kC BK297.out 6).trans rfl; have hcz28_7 : w27.cell? ⟨gb297, 7, none⟩ = some (.int .i64 a0_7) := (kC BK297.out 7).trans rfl; have hcz28_8 : w27.cell? ⟨gb297, 8, none⟩ = some (.slice A0_8 l0_8.length c0_8) := (kC BK297.out 8).trans rfl; have hcz28_9 : w27.cell? ⟨gb297, 9, none⟩ = some (.slice A0_9 l0_9.length c0_9) := (kC BK297.out 9).trans rfl; have hfz28_0 := blk_frozen BK297.out 0; have hfz28_1 := blk_frozen BK297.out 1; have hfz28_2 := blk_frozen BK297.out 2; have hfz28_3 := blk_frozen BK297.out 3; have hfz28_4 := blk_frozen BK297.out 4; have hfz28_5 := blk_frozen BK297.out 5; have hfz28_6 := blk_frozen BK297.out 6; have hfz28_7 := blk_frozen BK297.out 7; have hfz28_8 := blk_frozen BK297.out 8; have hfz28_9 := blk_frozen BK297.out 9) | (go_at_call 15; (with_reducible refine (spec_CoefsOk.calls k a0_0 a0_1 a0_2 a0_3 _ _ l0_4 _ _ l0_6 true _ ?side1 ?side2 ?side3 ?side4 A7.out).mono ?_); (case side1 => exact zC (Kd.C_below HR0_4.out HB.out)); (case side2 => exact HC0_4.out); (case side3 => exact zC (Kd.C_below HR0_6.out HB.out)); (case side4 => exact HC0_6.out); rintro e w29 ⟨rfl, hb⟩; replace BK297 := cB BK297 hb; replace HB := cH HB hb; (try clear hb); have hcz30_0 : w29.cell? ⟨gb297, 0, none⟩ = some (.int .i64 a0_0) := (kC BK297.out 0).trans rfl; have hcz30_1 : w29.cell? ⟨gb297, 1, none⟩ = some (.int .i64 a0_1) := (kC BK297.out 1).trans rfl; have hcz30_2 : w29.cell? ⟨gb297, 2, none⟩ = some (.int .i64 a0_2) := (kC BK297.out 2).trans rfl; have hcz30_3 : w29.cell? ⟨gb297, 3, none⟩ = some (.int .i64 a0_3) := (kC BK297.out 3).trans rfl; have hcz30_4 : w29.cell? ⟨gb297, 4, none⟩ = some (.slice A0_4 l0_4.length c0_4) := (kC BK297.out 4).trans rfl; have hcz30_5 : w29.cell? ⟨gb297, 5, none⟩ = some (.slice A0_5 l0_5.length c0_5) := (kC BK297.out 5).trans rfl; have hcz30_6 : w29.cell? ⟨gb297, 6, none⟩ = some (.slice A0_6 l0_6.length c0_6) := (kC BK297.out 6).trans rfl; have hcz30_7 : w29.cell? ⟨gb297, 7, none⟩ = some (.int .i64 a0_7) := (kC BK297.out 7).trans rfl; have hcz30_8 : w29.cell? ⟨gb297, 8, none⟩ = some (.slice A0_8 l0_8.length c0_8) := (kC BK297.out 8).trans rfl; have hcz30_9 : w29.cell? ⟨gb297, 9, none⟩ = some (.slice A0_9 l0_9.length c0_9) := (kC BK297.out 9).trans rfl; have hfz30_0 := blk_frozen BK297.out 0; have hfz30_1 := blk_frozen BK297.out 1; have hfz30_2 := blk_frozen BK297.out 2; have hfz30_3 := blk_frozen BK297.out 3; have hfz30_4 := blk_frozen BK297.out 4; have hfz30_5 := blk_frozen BK297.out 5; have hfz30_6 := blk_frozen BK297.out 6; have hfz30_7 := blk_frozen BK297.out 7; have hfz30_8 := blk_frozen BK297.out 8; have hfz30_9 := blk_frozen BK297.out 9) | (go_at_call 16; (with_reducible refine (spec_l01Between.calls a0_7 0 1 false _ A9.out).mono ?_); rintro e w' ⟨rfl, ⟨nd, rfl⟩⟩))
      go_meet
      case rel => exact ⟨_, (true), zS, H', zO, ⟨zK BK297⟩, ⟨zH⟩⟩
    ·replace c8 := Bool.eq_false_iff.mpr c8
     subst c8
     replace H := iF H
     have H' := aM H
     clear H
     have hcz31_0 : w3.cell? ⟨gb297, 0, none⟩ = some (.int .i64 a0_0) := (kC BK297.out 0).trans rfl
     have hcz31_1 : w3.cell? ⟨gb297, 1, none⟩ = some (.int .i64 a0_1) := (kC BK297.out 1).trans rfl
     have hcz31_2 : w3.cell? ⟨gb297, 2, none⟩ = some (.int .i64 a0_2) := (kC BK297.out 2).trans rfl
     have hcz31_3 : w3.cell? ⟨gb297, 3, none⟩ = some (.int .i64 a0_3) := (kC BK297.out 3).trans rfl
     have hcz31_4 : w3.cell? ⟨gb297, 4, none⟩ = some (.slice A0_4 l0_4.length c0_4) := (kC BK297.out 4).trans rfl
     have hcz31_5 : w3.cell? ⟨gb297, 5, none⟩ = some (.slice A0_5 l0_5.length c0_5) := (kC BK297.out 5).trans rfl
     have hcz31_6 : w3.cell? ⟨gb297, 6, none⟩ = some (.slice A0_6 l0_6.length c0_6) := (kC BK297.out 6).trans rfl
     have hcz31_7 : w3.cell? ⟨gb297, 7, none⟩ = some (.int .i64 a0_7) := (kC BK297.out 7).trans rfl
     have hcz31_8 : w3.cell? ⟨gb297, 8, none⟩ = some (.slice A0_8 l0_8.length c0_8) := (kC BK297.out 8).trans rfl
     have hcz31_9 : w3.cell? ⟨gb297, 9, none⟩ = some (.slice A0_9 l0_9.length c0_9) := (kC BK297.out 9).trans rfl
     go_wp2_with (first | (go_at_call 14; (with_reducible refine (spec_FrameOk.calls k a0_0 a0_1 a0_2 a0_3 _ _ l0_4 true _ ?side1 ?side2 A4.out).mono ?_); (case side1 => exact zC (Kd.C_below HR0_4.out HB.out)); (case side2 => exact HC0_4.out); rintro e w32 ⟨rfl, hb⟩; replace BK297 := cB BK297 hb; replace HB := cH HB hb; (try clear hb); have hcz33_0 : w32.cell? ⟨gb297, 0, none⟩ = some (.int .i64 a0_0) := (kC BK297.out 0).trans rfl; have hcz33_1 : w32.cell? ⟨gb297, 1, none⟩ = some (.int .i64 a0_1) := (kC BK297.out 1).trans rfl; have hcz33_2 : w32.cell? ⟨gb297, 2, none⟩ = some (.int .i64 a0_2) := (kC BK297.out 2).trans rfl; have hcz33_3 : w32.cell? ⟨gb297, 3, none⟩ = some (.int .i64 a0_3) := (kC BK297.out 3).trans rfl; have hcz33_4 : w32.cell? ⟨gb297, 4, none⟩ = some (.slice A0_4 l0_4.length c0_4) := (kC BK297.out 4).trans rfl; have hcz33_5 : w32.cell? ⟨gb297, 5, none⟩ = some (.slice A0_5 l0_5.length c0_5) := (kC BK297.out 5).trans rfl; have hcz33_6 : w32.cell? ⟨gb297, 6, none⟩ = some (.slice A0_6 l0_6.length c0_6) := (kC BK297.out 6).trans rfl; have hcz33_7 : w32.cell? ⟨gb297, 7, none⟩ = some (.int .i64 a0_7) := (kC BK297.out 7).trans rfl; have hcz33_8 : w32.cell? ⟨gb297, 8, none⟩ = some (.slice A0_8 l0_8.length c0_8) := (kC BK297.out 8).trans rfl; have hcz33_9 : w32.cell? ⟨gb297, 9, none⟩ = some (.slice A0_9 l0_9.length c0_9) := (kC BK297.out 9).trans rfl; have hfz33_0 := blk_frozen BK297.out 0; have hfz33_1 := blk_frozen BK297.out 1; have hfz33_2 := blk_frozen BK297.out 2; have hfz33_3 := blk_frozen BK297.out 3; have hfz33_4 := blk_frozen BK297.out 4; have hfz33_5 := blk_frozen BK297.out 5; have hfz33_6 := blk_frozen BK297.out 6; have hfz33_7 := blk_frozen BK297.out 7; have hfz33_8 := blk_frozen BK297.out 8; have hfz33_9 := blk_frozen BK297.out 9) | (go_at_call 15; (with_reducible refine (spec_CoefsOk.calls k a0_0 a0_1 a0_2 a0_3 _ _ l0_4 _ _ l0_6 false _ ?side1 ?side2 ?side3 ?side4 A7.out).mono ?_); (case side1 => exact zC (Kd.C_below HR0_4.out HB.out)); (case side2 => exact HC0_4.out); (case side3 => exact zC (Kd.C_below HR0_6.out HB.out)); (case side4 => exact HC0_6.out); rintro e w34 ⟨rfl, hb⟩; replace BK297 := cB BK297 hb; replace HB := cH HB hb; (try clear hb)))
     go_meet
     case rel => exact ⟨_, (true), zS, H', zO, ⟨zK BK297⟩, ⟨zH⟩⟩
   ·rw [if_neg c6] at H
    have c6b0 : ((l0_5.length : Int) == 4) = false := beq_eq_false_iff_ne.mpr c6
    have c6b1 : ((l0_5.length : Int) != 4) = true := bne_iff_ne.mpr c6
    (first | rw [c6b0] | (simp only [i64_w, i32_w]; rw [c6b0]) | skip)
    have H' := aM H
    clear H
    have hcz35_0 : w3.cell? ⟨gb297, 0, none⟩ = some (.int .i64 a0_0) := (kC BK297.out 0).trans rfl
    have hcz35_1 : w3.cell? ⟨gb297, 1, none⟩ = some (.int .i64 a0_1) := (kC BK297.out 1).trans rfl
    have hcz35_2 : w3.cell? ⟨gb297, 2, none⟩ = some (.int .i64 a0_2) := (kC BK297.out 2).trans rfl
    have hcz35_3 : w3.cell? ⟨gb297, 3, none⟩ = some (.int .i64 a0_3) := (kC BK297.out 3).trans rfl
    have hcz35_4 : w3.cell? ⟨gb297, 4, none⟩ = some (.slice A0_4 l0_4.length c0_4) := (kC BK297.out 4).trans rfl
    have hcz35_5 : w3.cell? ⟨gb297, 5, none⟩ = some (.slice A0_5 l0_5.length c0_5) := (kC BK297.out 5).trans rfl
    have hcz35_6 : w3.cell? ⟨gb297, 6, none⟩ = some (.slice A0_6 l0_6.length c0_6) := (kC BK297.out 6).trans rfl
    have hcz35_7 : w3.cell? ⟨gb297, 7, none⟩ = some (.int .i64 a0_7) := (kC BK297.out 7).trans rfl
    have hcz35_8 : w3.cell? ⟨gb297, 8, none⟩ = some (.slice A0_8 l0_8.length c0_8) := (kC BK297.out 8).trans rfl
    have hcz35_9 : w3.cell? ⟨gb297, 9, none⟩ = some (.slice A0_9 l0_9.length c0_9) := (kC BK297.out 9).trans rfl
    go_wp2_with (first | (go_at_call 14; (with_reducible refine (spec_FrameOk.calls k a0_0 a0_1 a0_2 a0_3 _ _ l0_4 true _ ?side1 ?side2 A4.out).mono ?_); (case side1 => exact zC (Kd.C_below HR0_4.out HB.out)); (case side2 => exact HC0_4.out); rintro e w36 ⟨rfl, hb⟩; replace BK297 := cB BK297 hb; replace HB := cH HB hb; (try clear hb); have hcz37_0 : w36.cell? ⟨gb297, 0, none⟩ = some (.int .i64 a0_0) := (kC BK297.out 0).trans rfl; have hcz37_1 : w36.cell? ⟨gb297, 1, none⟩ = some (.int .i64 a0_1) := (kC BK297.out 1).trans rfl; have hcz37_2 : w36.cell? ⟨gb297, 2, none⟩ = some (.int .i64 a0_2) := (kC BK297.out 2).trans rfl; have hcz37_3 : w36.cell? ⟨gb297, 3, none⟩ = some (.int .i64 a0_3) := (kC BK297.out 3).trans rfl; have hcz37_4 : w36.cell? ⟨gb297, 4, none⟩ = some (.slice A0_4 l0_4.length c0_4) := (kC BK297.out 4).trans rfl; have hcz37_5 : w36.cell? ⟨gb297, 5, none⟩ = some (.slice A0_5 l0_5.length c0_5) := (kC BK297.out 5).trans rfl; have hcz37_6 : w36.cell? ⟨gb297, 6, none⟩ = some (.slice A0_6 l0_6.length c0_6) := (kC BK297.out 6).trans rfl; have hcz37_7 : w36.cell? ⟨gb297, 7, none⟩ = some (.int .i64 a0_7) := (kC BK297.out 7).trans rfl; have hcz37_8 : w36.cell? ⟨gb297, 8, none⟩ = some (.slice A0_8 l0_8.length c0_8) := (kC BK297.out 8).trans rfl; have hcz37_9 : w36.cell? ⟨gb297, 9, none⟩ = some (.slice A0_9 l0_9.length c0_9) := (kC BK297.out 9).trans rfl; have hfz37_0 := blk_frozen BK297.out 0; have hfz37_1 := blk_frozen BK297.out 1; have hfz37_2 := blk_frozen BK297.out 2; have hfz37_3 := blk_frozen BK297.out 3; have hfz37_4 := blk_frozen BK297.out 4; have hfz37_5 := blk_frozen BK297.out 5; have hfz37_6 := blk_frozen BK297.out 6; have hfz37_7 := blk_frozen BK297.out 7; have hfz37_8 := blk_frozen BK297.out 8; have hfz37_9 := blk_frozen BK297.out 9))
    go_meet
    case rel => exact ⟨_, (true), zS, H', zO, ⟨zK BK297⟩, ⟨zH⟩⟩
  ·replace c5 := Bool.eq_false_iff.mpr c5
   subst c5
   replace H := iF H
   have H' := aM H
   clear H
   have hcz38_0 : w3.cell? ⟨gb297, 0, none⟩ = some (.int .i64 a0_0) := (kC BK297.out 0).trans rfl
   have hcz38_1 : w3.cell? ⟨gb297, 1, none⟩ = some (.int .i64 a0_1) := (kC BK297.out 1).trans rfl
   have hcz38_2 : w3.cell? ⟨gb297, 2, none⟩ = some (.int .i64 a0_2) := (kC BK297.out 2).trans rfl
   have hcz38_3 : w3.cell? ⟨gb297, 3, none⟩ = some (.int .i64 a0_3) := (kC BK297.out 3).trans rfl
   have hcz38_4 : w3.cell? ⟨gb297, 4, none⟩ = some (.slice A0_4 l0_4.length c0_4) := (kC BK297.out 4).trans rfl
   have hcz38_5 : w3.cell? ⟨gb297, 5, none⟩ = some (.slice A0_5 l0_5.length c0_5) := (kC BK297.out 5).trans rfl
   have hcz38_6 : w3.cell? ⟨gb297, 6, none⟩ = some (.slice A0_6 l0_6.length c0_6) := (kC BK297.out 6).trans rfl
   have hcz38_7 : w3.cell? ⟨gb297, 7, none⟩ = some (.int .i64 a0_7) := (kC BK297.out 7).trans rfl
   have hcz38_8 : w3.cell? ⟨gb297, 8, none⟩ = some (.slice A0_8 l0_8.length c0_8) := (kC BK297.out 8).trans rfl
   have hcz38_9 : w3.cell? ⟨gb297, 9, none⟩ = some (.slice A0_9 l0_9.length c0_9) := (kC BK297.out 9).trans rfl
   go_wp2_with (first | (go_at_call 14; (with_reducible refine (spec_FrameOk.calls k a0_0 a0_1 a0_2 a0_3 _ _ l0_4 false _ ?side1 ?side2 A4.out).mono ?_); (case side1 => exact zC (Kd.C_below HR0_4.out HB.out)); (case side2 => exact HC0_4.out); rintro e w39 ⟨rfl, hb⟩; replace BK297 := cB BK297 hb; replace HB := cH HB hb; (try clear hb)))
   go_meet
   case rel => exact ⟨_, (true), zS, H', zO, ⟨zK BK297⟩, ⟨zH⟩⟩
 case rest =>
  clear HC2
  obtain ⟨kq, x41_1, rfl, HA, HJ1, BK297, HB⟩ := hcut
  cases kq with
  | zero => exact absurd HA.out (by simp [spec_StreamOk.j0])
  | succ kj1 =>
   have H := HA.out
   clear HA
   simp only [spec_StreamOk.j0] at H
   by_cases c40 : x41_1 = true
   ·subst c40
    replace H := iT H
    obtain rfl := Option.some.inj H
    go_wp2
    go_ret
    exact ⟨zR, zH⟩
   ·replace c40 := Bool.eq_false_iff.mpr c40
    subst c40
    replace H := iF H
    have H' := aM H
    clear H
    go_wp2
    go_loopg [3] kj1 (fun kq v3 w' => ∃ (x3_2 : Int), v3 = .int .i64 x3_2 ∧ Aside0 (spec_StreamOk.l0 kq x3_2 a0_0 a0_1 a0_2 a0_3 l0_4 l0_5 l0_6 a0_7 l0_8 l0_9 = some r) ∧ Aside0 (kq ≤ kj1) ∧ Aside0 (w'.heap[gb297]? = some (.cells #[.int .i64 a0_0, .int .i64 a0_1, .int .i64 a0_2, .int .i64 a0_3, (.slice A0_4 l0_4.length c0_4), (.slice A0_5 l0_5.length c0_5), (.slice A0_6 l0_6.length c0_6), .int .i64 a0_7, (.slice A0_8 l0_8.length c0_8), (.slice A0_9 l0_9.length c0_9)] 41 (0, 0))) ∧ Aside0 (Below w.heap.size w w'))
    case atStart => exact ⟨(0), zS, H', ⟨Nat.le_refl _⟩, ⟨zK BK297⟩, ⟨zH⟩⟩
    case round =>
     clear H'
     try clear c40
     obtain ⟨x3_2, rfl, HA, HK2, BK297, HB⟩ := hrel
     cases gk with
     | zero => exact absurd HA.out (by simp [spec_StreamOk.l0])
     | succ k2 =>
      have H := HA.out
      clear HA
      simp only [spec_StreamOk.l0] at H
      by_cases c41 : x3_2 < 4
      ·rw [if_pos c41] at H
       have c41b0 : decide (x3_2 < 4) = true := decide_eq_true c41
       clear c41
       by_cases c42 : 0 ≤ x3_2
       ·rw [if_pos c42] at H
        have c42b0 : decide (0 ≤ x3_2) = true := decide_eq_true c42
        clear c42
        by_cases c43 : x3_2 < (l0_5.length : Int)
        ·rw [if_pos c43] at H
         have c43b0 : decide (x3_2 < (l0_5.length : Int)) = true := decide_eq_true c43
         clear c43
         obtain ⟨t303, A44, H⟩ := oH H
         by_cases c45 : t303 = true
         ·subst c45
          replace H := iT H
          have H' := aM H
          clear H
          have hcz46_0 : wr.cell? ⟨gb297, 0, none⟩ = some (.int .i64 a0_0) := (kC BK297.out 0).trans rfl
          have hcz46_1 : wr.cell? ⟨gb297, 1, none⟩ = some (.int .i64 a0_1) := (kC BK297.out 1).trans rfl
          have hcz46_2 : wr.cell? ⟨gb297, 2, none⟩ = some (.int .i64 a0_2) := (kC BK297.out 2).trans rfl
          have hcz46_3 : wr.cell? ⟨gb297, 3, none⟩ = some (.int .i64 a0_3) := (kC BK297.out 3).trans rfl
          have hcz46_4 : wr.cell? ⟨gb297, 4, none⟩ = some (.slice A0_4 l0_4.length c0_4) := (kC BK297.out 4).trans rfl
          have hcz46_5 : wr.cell? ⟨gb297, 5, none⟩ = some (.slice A0_5 l0_5.length c0_5) := (kC BK297.out 5).trans rfl
          have hcz46_6 : wr.cell? ⟨gb297, 6, none⟩ = some (.slice A0_6 l0_6.length c0_6) := (kC BK297.out 6).trans rfl
          have hcz46_7 : wr.cell? ⟨gb297, 7, none⟩ = some (.int .i64 a0_7) := (kC BK297.out 7).trans rfl
          have hcz46_8 : wr.cell? ⟨gb297, 8, none⟩ = some (.slice A0_8 l0_8.length c0_8) := (kC BK297.out 8).trans rfl
          have hcz46_9 : wr.cell? ⟨gb297, 9, none⟩ = some (.slice A0_9 l0_9.length c0_9) := (kC BK297.out 9).trans rfl
          have p302 : 0 ≤ (x3_2 : Int) := zA
          have q302 : x3_2 < (l0_5.length : Int) := zA
          obtain ⟨ad302, A302_0, c302_0, e302, hx302_0, hl302_0, hi302_0⟩ := at_L2 HR0_5.out x3_2 p302 q302
          cases e302
          replace hx302_0 := hX HB hx302_0
          have HR302_0 := aM hi302_0
          have HC302_0 := aM hl302_0
          clear hi302_0 hl302_0
          replace p302 := eq_true p302
          replace q302 := eq_true q302
          go_wp2_with (first | (go_at_call 18; (with_reducible refine (spec_TableOk.calls k2 _ _ (rd_L2 l0_5 x3_2) true _ ?side1 ?side2 A44.out).mono ?_); (case side1 => exact zC (Kd.C_below HR302_0.out HB.out)); (case side2 => exact HC302_0.out); rintro e w' ⟨rfl, ⟨nd, rfl⟩⟩))
          go_roundg k2
          case measure => have := HJ1.out; have := HK2.out; omega
          case rel => exact ⟨(wrap64 (x3_2 + 1)), zS, H', ⟨by have := HJ1.out; have := HK2.out; omega⟩, ⟨zK BK297⟩, ⟨zH⟩⟩
         ·replace c45 := Bool.eq_false_iff.mpr c45
          subst c45
          replace H := iF H
          obtain rfl := Option.some.inj H
          have hcz47_0 : wr.cell? ⟨gb297, 0, none⟩ = some (.int .i64 a0_0) := (kC BK297.out 0).trans rfl
          have hcz47_1 : wr.cell? ⟨gb297, 1, none⟩ = some (.int .i64 a0_1) := (kC BK297.out 1).trans rfl
          have hcz47_2 : wr.cell? ⟨gb297, 2, none⟩ = some (.int .i64 a0_2) := (kC BK297.out 2).trans rfl
          have hcz47_3 : wr.cell? ⟨gb297, 3, none⟩ = some (.int .i64 a0_3) := (kC BK297.out 3).trans rfl
          have hcz47_4 : wr.cell? ⟨gb297, 4, none⟩ = some (.slice A0_4 l0_4.length c0_4) := (kC BK297.out 4).trans rfl
          have hcz47_5 : wr.cell? ⟨gb297, 5, none⟩ = some (.slice A0_5 l0_5.length c0_5) := (kC BK297.out 5).trans rfl
          have hcz47_6 : wr.cell? ⟨gb297, 6, none⟩ = some (.slice A0_6 l0_6.length c0_6) := (kC BK297.out 6).trans rfl
          have hcz47_7 : wr.cell? ⟨gb297, 7, none⟩ = some (.int .i64 a0_7) := (kC BK297.out 7).trans rfl
          have hcz47_8 : wr.cell? ⟨gb297, 8, none⟩ = some (.slice A0_8 l0_8.length c0_8) := (kC BK297.out 8).trans rfl
          have hcz47_9 : wr.cell? ⟨gb297, 9, none⟩ = some (.slice A0_9 l0_9.length c0_9) := (kC BK297.out 9).trans rfl
          have p302 : 0 ≤ (x3_2 : Int) := zA
          have q302 : x3_2 < (l0_5.length : Int) := zA
          obtain ⟨ad302, A302_0, c302_0, e302, hx302_0, hl302_0, hi302_0⟩ := at_L2 HR0_5.out x3_2 p302 q302
          cases e302
          replace hx302_0 := hX HB hx302_0
          have HR302_0 := aM hi302_0
          have HC302_0 := aM hl302_0
          clear hi302_0 hl302_0
          replace p302 := eq_true p302
          replace q302 := eq_true q302
          go_wp2_with (first | (go_at_call 18; (with_reducible refine (spec_TableOk.calls k2 _ _ (rd_L2 l0_5 x3_2) false _ ?side1 ?side2 A44.out).mono ?_); (case side1 => exact zC (Kd.C_below HR302_0.out HB.out)); (case side2 => exact HC302_0.out); rintro e w' ⟨rfl, ⟨nd, rfl⟩⟩))
          go_ret
          exact ⟨zR, zH⟩
        ·rw [if_neg c43] at H
         exact absurd H (by simp)
       ·rw [if_neg c42] at H
        exact absurd H (by simp)
      ·rw [if_neg c41] at H
       have c41b0 : decide (x3_2 < 4) = false := decide_eq_false c41
       clear c41
       obtain rfl := Option.some.inj H
       go_wp2
       go_ret
       exact ⟨zR, zH⟩

end Go.Proofs.Ytpcfjobojdldnaa.CV
