/- Functions that a law of this seat reaches: written by a program of this session (wip/xprint.py), and by hand. -/
import Derived.Test.YtpcfjobojdldnaaYMac
import Derived.Test.YtpcfjobojdldnaaYCVx0
import Derived.Test.YtpcfjobojdldnaaYCVx11
namespace Go.Proofs.Ytpcfjobojdldnaa.CV
open Go.RowKit Go.Proofs.Ytpcfjobojdldnaa.B Go.Proofs.YtpcfjobojdldnaaW.PrintWords Go.Proofs.YtpcfjobojdldnaaW.PrintLast Go.Proofs.YtpcfjobojdldnaaW.PrintMore
attribute [local go_sem] max2_int min2_int max_two min_two max_three min_three max_four min_four   -- for this text's walks alone
set_option linter.unusedVariables false
set_option linter.unusedSimpArgs false

/-! ### impl_tell: function 73 -/
mutual
def impl_tell.j0 : Nat → List (List Int) → Int → List Int → Int → Int → Int → Int → Option (Bool × (List (List Int)))
  | 0, _, _, _, _, _, _, _ => none
  | k + 1, x0, x5, x440000, x440001, x440002, x440003, x440004 => impl_tell.l0 k x0 x5 x440000 (x440000.length : Int) 0 x440000 x440001 x440002 x440003 x440004
def impl_tell.l0 : Nat → List (List Int) → Int → List Int → Int → Int → List Int → Int → Int → Int → Int → Option (Bool × (List (List Int)))
  | 0, _, _, _, _, _, _, _, _, _, _ => none
  | k + 1, x0, x5, x15, x16, x17, x440000, x440001, x440002, x440003, x440004 => if x17 < x16 then (if 0 ≤ x17 then (if x17 < (x15.length : Int) then (impl_tell.l1 k x0 x5 (rd x15 x17) x440001 x15 x16 x17 x440000 x440001 x440002 x440003 x440004) else (none)) else (none)) else (some (true, x0))
def impl_tell.l1 : Nat → List (List Int) → Int → Int → Int → List Int → Int → Int → List Int → Int → Int → Int → Int → Option (Bool × (List (List Int)))
  | 0, _, _, _, _, _, _, _, _, _, _, _, _ => none
  | k + 1, x0, x5, x7, x8, x15, x16, x17, x440000, x440001, x440002, x440003, x440004 => if x8 ≤ x440002 then (if 0 ≤ x7 then (if x7 < (x0.length : Int) then (if 0 ≤ x8 then (if x8 < ((rd_L2 x0 x7).length : Int) then (if (rd (rd_L2 x0 x7) x8) = x5 then (impl_tell.l1 k (x0.set (x7 : Int).toNat ((rd_L2 x0 x7).set (x8 : Int).toNat x440004)) x5 x7 (wrap64 (x8 + 1)) x15 x16 x17 x440000 x440001 x440002 x440003 x440004) else (some (false, x0))) else (none)) else (none)) else (none)) else (none)) else (impl_tell.l0 k x0 x5 x15 x16 (wrap64 (x17 + 1)) x440000 x440001 x440002 x440003 x440004)
end
def impl_tell.f (k : Nat) (l0 : List (List Int)) (l1_0 : List Int) (a1_1 : Int) (a1_2 : Int) (a1_3 : Int) (a1_4 : Int) : Option (Bool × (List (List Int))) := if a1_3 > 0 then (impl_tell.j0 k l0 a1_3 l1_0 a1_1 a1_2 a1_3 a1_4) else (impl_tell.j0 k l0 (-1) l1_0 a1_1 a1_2 a1_3 a1_4)
theorem impl_tell.mono_l : ∀ k, (∀ y0 y1 y2 y3 y4 y5 y6, LeO (impl_tell.j0 k y0 y1 y2 y3 y4 y5 y6) (impl_tell.j0 (k + 1) y0 y1 y2 y3 y4 y5 y6)) ∧ (∀ y0 y1 y2 y3 y4 y5 y6 y7 y8 y9, LeO (impl_tell.l0 k y0 y1 y2 y3 y4 y5 y6 y7 y8 y9) (impl_tell.l0 (k + 1) y0 y1 y2 y3 y4 y5 y6 y7 y8 y9)) ∧ (∀ y0 y1 y2 y3 y4 y5 y6 y7 y8 y9 y10 y11, LeO (impl_tell.l1 k y0 y1 y2 y3 y4 y5 y6 y7 y8 y9 y10 y11) (impl_tell.l1 (k + 1) y0 y1 y2 y3 y4 y5 y6 y7 y8 y9 y10 y11))
 | 0 => ⟨fun _ _ _ _ _ _ _ r h => by simp [impl_tell.j0] at h, fun _ _ _ _ _ _ _ _ _ _ r h => by simp [impl_tell.l0] at h, fun _ _ _ _ _ _ _ _ _ _ _ _ r h => by simp [impl_tell.l1] at h⟩
 | k + 1 => by
  obtain ⟨ih0, ih1, ih2⟩ := impl_tell.mono_l k
  refine ⟨?_, ?_, ?_⟩
  ·intro y0 y1 y2 y3 y4 y5 y6
   unfold impl_tell.j0
   repeat' first
   | (with_reducible exact ih0 _ _ _ _ _ _ _)
   | (with_reducible exact ih1 _ _ _ _ _ _ _ _ _ _)
   | (with_reducible exact ih2 _ _ _ _ _ _ _ _ _ _ _ _)
   | (with_reducible exact LeO.refl _)
   | (with_reducible exact LeO.none _)
   | (with_reducible refine LeO.ite ?_ ?_)
   | (with_reducible refine LeO.bind ?_ (fun _ => ?_))
   | exact ih0 _ _ _ _ _ _ _
   | exact ih1 _ _ _ _ _ _ _ _ _ _
   | exact ih2 _ _ _ _ _ _ _ _ _ _ _ _
   | exact LeO.none _
   | refine LeO.ite ?_ ?_
   | refine LeO.bind ?_ (fun _ => ?_)
  ·intro y0 y1 y2 y3 y4 y5 y6 y7 y8 y9
   unfold impl_tell.l0
   repeat' first
   | (with_reducible exact ih0 _ _ _ _ _ _ _)
   | (with_reducible exact ih1 _ _ _ _ _ _ _ _ _ _)
   | (with_reducible exact ih2 _ _ _ _ _ _ _ _ _ _ _ _)
   | (with_reducible exact LeO.refl _)
   | (with_reducible exact LeO.none _)
   | (with_reducible refine LeO.ite ?_ ?_)
   | (with_reducible refine LeO.bind ?_ (fun _ => ?_))
   | exact ih0 _ _ _ _ _ _ _
   | exact ih1 _ _ _ _ _ _ _ _ _ _
   | exact ih2 _ _ _ _ _ _ _ _ _ _ _ _
   | exact LeO.none _
   | refine LeO.ite ?_ ?_
   | refine LeO.bind ?_ (fun _ => ?_)
  ·intro y0 y1 y2 y3 y4 y5 y6 y7 y8 y9 y10 y11
   unfold impl_tell.l1
   repeat' first
   | (with_reducible exact ih0 _ _ _ _ _ _ _)
   | (with_reducible exact ih1 _ _ _ _ _ _ _ _ _ _)
   | (with_reducible exact ih2 _ _ _ _ _ _ _ _ _ _ _ _)
   | (with_reducible exact LeO.refl _)
   | (with_reducible exact LeO.none _)
   | (with_reducible refine LeO.ite ?_ ?_)
   | (with_reducible refine LeO.bind ?_ (fun _ => ?_))
   | exact ih0 _ _ _ _ _ _ _
   | exact ih1 _ _ _ _ _ _ _ _ _ _
   | exact ih2 _ _ _ _ _ _ _ _ _ _ _ _
   | exact LeO.none _
   | refine LeO.ite ?_ ?_
   | refine LeO.bind ?_ (fun _ => ?_)
theorem impl_tell.mono : ∀ a0 a1 a2 a3 a4 a5 k, LeO (impl_tell.f k a0 a1 a2 a3 a4 a5) (impl_tell.f (k + 1) a0 a1 a2 a3 a4 a5) := by
 intro a0 a1 a2 a3 a4 a5 k
 obtain ⟨ih0, ih1, ih2⟩ := impl_tell.mono_l k
 unfold impl_tell.f
 repeat' first
   | (with_reducible exact ih0 _ _ _ _ _ _ _)
   | (with_reducible exact ih1 _ _ _ _ _ _ _ _ _ _)
   | (with_reducible exact ih2 _ _ _ _ _ _ _ _ _ _ _ _)
   | (with_reducible exact LeO.refl _)
   | (with_reducible exact LeO.none _)
   | (with_reducible refine LeO.ite ?_ ?_)
   | (with_reducible refine LeO.bind ?_ (fun _ => ?_))
   | exact ih0 _ _ _ _ _ _ _
   | exact ih1 _ _ _ _ _ _ _ _ _ _
   | exact ih2 _ _ _ _ _ _ _ _ _ _ _ _
   | exact LeO.none _
   | refine LeO.ite ?_ ?_
   | refine LeO.bind ?_ (fun _ => ?_)
def impl_tell.T12 : Bool × List (List Nat × List Nat) := (true, [([], []), ([], []), ([0, 1], [0, 1]), ([2], [2]), ([], []), ([], []), ([5], [5]), ([3, 4, 0, 1, 2, 3, 4, 5, 6], [3, 4]), ([7, 6, 0, 1, 2, 3, 4, 5, 6], [6, 7])])
def impl_tell.B12 : List Nat := [0, 0, 3, 7, 0, 0, 32, 127, 255]
theorem impl_tell.tab12 : rtab .any (opsOf Try.f73 12) = impl_tell.T12 := by kernel_rfl
theorem impl_tell.bits12 : waitsOk impl_tell.T12.2 impl_tell.B12 = true := by kernel_rfl
set_option maxHeartbeats 8000000 in
set_option maxRecDepth 100000 in
theorem impl_tell.calls (k : Nat) (P0_ : Nat → Prop) (u9000_ : Value) (l0 : List (List Int)) (A1_0 : Option Addr) (c1_0 : Nat) (l1_0 : List Int) (a1_1 : Int) (a1_2 : Int) (a1_3 : Int) (a1_4 : Int) (r1 : Bool) (r2 : List (List Int)) (w0 w : World) (hB : Below w0.heap.size w0 w) (ho0 : Kd.S (Kd.slice 3 (Kd.int .i64)) 55 w w0.heap.size P0_ u9000_ l0) (hr1_0 : ∀ W_, Kept w W_ (fun k_ => P0_ k_) → Kd.C (Kd.int .i64) W_ A1_0 l1_0.length l1_0) (hc1_0 : l1_0.length ≤ c1_0) (h : impl_tell.f k l0 l1_0 a1_1 a1_2 a1_3 a1_4 = some (r1, r2)) :
  Calls Try.prog 73 #[u9000_, .agg #[.slice A1_0 l1_0.length c1_0, .int .i64 a1_1, .int .i64 a1_2, .int .i64 a1_3, .int .i64 a1_4]] w fun e w' => e = .returned (.bool r1) ∧ Kd.S (Kd.slice 3 (Kd.int .i64)) 55 w' w0.heap.size (fun k_ => (P0_ k_ ∨ w.heap.size ≤ k_)) u9000_ r2 ∧ Below w0.heap.size w0 w' ∧ Kept w w' (fun k_ => P0_ k_) := by
 have hu86 := Try.underlying86
 have HO0 := aM (show Kd.S (Kd.slice 3 (Kd.int .i64)) 55 w w0.heap.size (fun k_ => (P0_ k_ ∨ w.heap.size ≤ k_)) u9000_ l0 from Kd.S_mono ho0 (fun k_ hk => (.inl hk)))
 have HR1_0 := aM hr1_0
 have HC1_0 := aM hc1_0
 clear hr1_0 hc1_0
 have HK := aM (Kept.refl w (fun k_ => P0_ k_))
 have HW0 := aM hB.size
 have HB := aM hB
 clear hB
 have H : (if a1_3 > 0 then (impl_tell.j0 k l0 a1_3 l1_0 a1_1 a1_2 a1_3 a1_4) else (impl_tell.j0 k l0 (-1) l1_0 a1_1 a1_2 a1_3 a1_4)) = some (r1, r2) := h
 clear h
 have HC3 := aM H
 clear H
 go_enter Try.func73, Try.ntmps73
 go_upto_if 11 with (first | ((with_reducible refine gate_dst (N := 3) rfl ?_); refine box_event ?hg (N := 3) ?hd (cs := #[.slice A1_0 l1_0.length c1_0, .int .i64 a1_1, .int .i64 a1_2, .int .i64 a1_3, .int .i64 a1_4]) (t := 86) ?hr ?_; (case hd => rfl); (case hg => rfl); (case hr => first | (go_simp; done) | (go_simp; rfl)); intro gb439 hg w4 hbox hb; have n0_ := aM (Kd.S_below (by (with_reducible repeat (first | apply Kd.S_alloc | apply Kd.S_drewN | apply Kd.S_drew)); exact HO0.out) hb); have n1_ := aM (Kept.below (S := (fun k_ => P0_ k_)) (by repeat (first | (with_reducible first | exact HK.out | apply Kept.alloc | apply Kept.drewN | apply Kept.drew) | exact HK.out)) hb); have n2_ := cH HB hb; have n3_ := aM hbox; have n4_ := aM ((by rw [hg]; exact (by first | exact HK.out.1 | exact (show Kept w _ (fun k_ => P0_ k_) from by repeat (first | (with_reducible first | exact HK.out | apply Kept.alloc | apply Kept.drewN | apply Kept.drew) | exact HK.out)).1) : w.heap.size ≤ gb439)); have n5_ := aM (zG hg : w0.heap.size ≤ gb439); clear HO0; clear HK; clear HB; have HO0 := n0_; have HK := n1_; have HB := n2_; have BK439 := n3_; have GW439 := n4_; have GE439 := n5_; clear n0_ n1_ n2_ n3_ n4_ n5_; clear hb hbox hg; have hcz5_0 : w4.cell? ⟨gb439, 0, none⟩ = some (.slice A1_0 l1_0.length c1_0) := (kC BK439.out 0).trans rfl; have hcz5_1 : w4.cell? ⟨gb439, 1, none⟩ = some (.int .i64 a1_1) := (kC BK439.out 1).trans rfl; have hcz5_2 : w4.cell? ⟨gb439, 2, none⟩ = some (.int .i64 a1_2) := (kC BK439.out 2).trans rfl; have hcz5_3 : w4.cell? ⟨gb439, 3, none⟩ = some (.int .i64 a1_3) := (kC BK439.out 3).trans rfl; have hcz5_4 : w4.cell? ⟨gb439, 4, none⟩ = some (.int .i64 a1_4) := (kC BK439.out 4).trans rfl; have hfz5_0 := blk_frozen BK439.out 0; have hfz5_1 := blk_frozen BK439.out 1; have hfz5_2 := blk_frozen BK439.out 2; have hfz5_3 := blk_frozen BK439.out 3; have hfz5_4 := blk_frozen BK439.out 4))
 (try simp only [Act.put, List.setIfInBounds_toArray, List.set_cons_zero, List.set_cons_succ])
 go_cut [5] (fun v5 wc => ∃ (kq : Nat) (x5_2 : Int), v5 = .int .i64 x5_2 ∧ Aside0 (impl_tell.j0 kq l0 x5_2 l1_0 a1_1 a1_2 a1_3 a1_4 = some (r1, r2)) ∧ Aside0 (kq ≤ k) ∧ Aside0 (Kd.S (Kd.slice 3 (Kd.int .i64)) 55 wc w0.heap.size (fun k_ => (P0_ k_ ∨ w.heap.size ≤ k_)) u9000_ l0) ∧ Aside0 (wc.heap[gb439]? = some (.cells #[(.slice A1_0 l1_0.length c1_0), .int .i64 a1_1, .int .i64 a1_2, .int .i64 a1_3, .int .i64 a1_4] 86 (0, 0))) ∧ Aside0 (Kept w wc (fun k_ => P0_ k_)) ∧ Aside0 (Below w0.heap.size w0 wc))
 case first =>
  have H := HC3.out
  clear HC3
  by_cases c6 : a1_3 > 0
  ·rw [if_pos c6] at H
   have c6b0 : decide (0 < a1_3) = true := decide_eq_true c6
   clear c6
   (first | rw [c6b0] | (simp only [i64_w, i32_w]; rw [c6b0]) | skip)
   have H' := aM H
   clear H
   obtain ⟨hcz7_0, hcz7_1, hcz7_2, hcz7_3, hcz7_4⟩ := kk5 BK439
   go_wp2
   go_meet
   case rel => exact ⟨_, (a1_3), zS, H', zO, ⟨by (with_reducible repeat (first | apply Kd.S_alloc | apply Kd.S_drewN | apply Kd.S_drew)); exact HO0.out⟩, ⟨zK BK439⟩, ⟨by repeat (first | (with_reducible first | exact HK.out | apply Kept.alloc | apply Kept.drewN | apply Kept.drew | refine Kept.setCell ?_ (.inr GW439.out) _) | exact HK.out)⟩, ⟨zH⟩⟩
  ·rw [if_neg c6] at H
   have c6b0 : decide (0 < a1_3) = false := decide_eq_false c6
   clear c6
   (first | rw [c6b0] | (simp only [i64_w, i32_w]; rw [c6b0]) | skip)
   have H' := aM H
   clear H
   go_wp2
   go_meet
   case rel => exact ⟨_, ((-1)), zS, H', zO, ⟨by (with_reducible repeat (first | apply Kd.S_alloc | apply Kd.S_drewN | apply Kd.S_drew)); exact HO0.out⟩, ⟨zK BK439⟩, ⟨by repeat (first | (with_reducible first | exact HK.out | apply Kept.alloc | apply Kept.drewN | apply Kept.drew | refine Kept.setCell ?_ (.inr GW439.out) _) | exact HK.out)⟩, ⟨zH⟩⟩
 case rest =>
  clear HC3
  (try clear hcz5_0); (try clear hcz5_1); (try clear hcz5_2); (try clear hcz5_3); (try clear hcz5_4); (try clear hfz5_0); (try clear hfz5_1); (try clear hfz5_2); (try clear hfz5_3); (try clear hfz5_4)
  obtain ⟨kq, x5_2, rfl, HA, HJ2, HO_0, BK439, HK, HB⟩ := hcut
  cases kq with
  | zero => exact absurd HA.out (by simp [impl_tell.j0])
  | succ kj2 =>
   have H := HA.out
   clear HA
   simp only [impl_tell.j0] at H
   have H' := aM H
   clear H
   obtain ⟨hcz8_0, hcz8_1, hcz8_2, hcz8_3, hcz8_4⟩ := kk5 BK439
   go_wp2
   go_loopg [17] kj2 (fun kq v17 w' => ∃ (x0_2 : List (List Int)) (x17_2 : Int), v17 = .int .i64 x17_2 ∧ Aside0 (impl_tell.l0 kq x0_2 x5_2 l1_0 (l1_0.length : Int) x17_2 l1_0 a1_1 a1_2 a1_3 a1_4 = some (r1, r2)) ∧ Aside0 (kq ≤ kj2) ∧ Aside0 (Kd.S (Kd.slice 3 (Kd.int .i64)) 55 w' w0.heap.size (fun k_ => (P0_ k_ ∨ w.heap.size ≤ k_)) u9000_ x0_2) ∧ Aside0 (w'.heap[gb439]? = some (.cells #[(.slice A1_0 l1_0.length c1_0), .int .i64 a1_1, .int .i64 a1_2, .int .i64 a1_3, .int .i64 a1_4] 86 (0, 0))) ∧ Aside0 (Kept w w' (fun k_ => P0_ k_)) ∧ Aside0 (Below w0.heap.size w0 w'))
   case atStart => exact ⟨(l0), (0), zS, H', ⟨Nat.le_refl _⟩, ⟨by (with_reducible repeat (first | apply Kd.S_alloc | apply Kd.S_drewN | apply Kd.S_drew)); exact HO_0.out⟩, ⟨zK BK439⟩, ⟨by repeat (first | (with_reducible first | exact HK.out | apply Kept.alloc | apply Kept.drewN | apply Kept.drew | refine Kept.setCell ?_ (.inr GW439.out) _) | exact HK.out)⟩, ⟨zH⟩⟩
   case round =>
    clear H'
    (try clear hcz8_0); (try clear hcz8_1); (try clear hcz8_2); (try clear hcz8_3); (try clear hcz8_4)
    obtain ⟨x0_2, x17_2, rfl, HA, HK2, HO_0, BK439, HK, HB⟩ := hrel
    cases gk with
    | zero => exact absurd HA.out (by simp [impl_tell.l0])
    | succ k2 =>
     have H := HA.out
     clear HA
     simp only [impl_tell.l0] at H
     by_cases c9 : x17_2 < (l1_0.length : Int)
     ·rw [if_pos c9] at H
      have c9b0 : decide (x17_2 < (l1_0.length : Int)) = true := decide_eq_true c9
      clear c9
      by_cases c10 : 0 ≤ x17_2
      ·rw [if_pos c10] at H
       have c10b0 : decide (0 ≤ x17_2) = true := decide_eq_true c10
       clear c10
       by_cases c11 : x17_2 < (l1_0.length : Int)
       ·rw [if_pos c11] at H
        have c11b0 : decide (x17_2 < (l1_0.length : Int)) = true := decide_eq_true c11
        clear c11
        have H' := aM H
        clear H
        have p440 : 0 ≤ (x17_2 : Int) := zA
        have q440 : x17_2 < (l1_0.length : Int) := zA
        obtain ⟨ad440, e440, hx440_0⟩ := Kd.at_int (Kd.C_kept_now HR1_0.out HK.out) x17_2 p440 q440
        cases e440
        replace p440 := eq_true p440
        replace q440 := eq_true q440
        obtain ⟨hcz12_0, hcz12_1, hcz12_2, hcz12_3, hcz12_4⟩ := kk5 BK439
        go_wp2
        go_loopg [8] k2 (fun kq v8 w' => ∃ (x0_3 : List (List Int)) (x8_3 : Int), v8 = .int .i64 x8_3 ∧ Aside0 (impl_tell.l1 kq x0_3 x5_2 (rd l1_0 x17_2) x8_3 l1_0 (l1_0.length : Int) x17_2 l1_0 a1_1 a1_2 a1_3 a1_4 = some (r1, r2)) ∧ Aside0 (kq ≤ k2) ∧ Aside0 (Kd.S (Kd.slice 3 (Kd.int .i64)) 55 w' w0.heap.size (fun k_ => (P0_ k_ ∨ w.heap.size ≤ k_)) u9000_ x0_3) ∧ Aside0 (w'.heap[gb439]? = some (.cells #[(.slice (some ad440) l1_0.length c1_0), .int .i64 a1_1, .int .i64 a1_2, .int .i64 a1_3, .int .i64 a1_4] 86 (0, 0))) ∧ Aside0 (Kept w w' (fun k_ => P0_ k_)) ∧ Aside0 (Below w0.heap.size w0 w'))
        case atStart => exact ⟨(x0_2), (a1_1), zS, H', ⟨Nat.le_refl _⟩, ⟨by (with_reducible repeat (first | apply Kd.S_alloc | apply Kd.S_drewN | apply Kd.S_drew)); exact HO_0.out⟩, ⟨zK BK439⟩, ⟨by repeat (first | (with_reducible first | exact HK.out | apply Kept.alloc | apply Kept.drewN | apply Kept.drew | refine Kept.setCell ?_ (.inr GW439.out) _) | exact HK.out)⟩, ⟨zH⟩⟩
        case round =>
         clear H'
         (try clear c9b0); (try clear c10b0); (try clear c11b0); (try clear hcz12_0); (try clear hcz12_1); (try clear hcz12_2); (try clear hcz12_3); (try clear hcz12_4); (try clear hx440_0); (try clear p440); (try clear q440)
         obtain ⟨x0_3, x8_3, rfl, HA, HK3, HO_0, BK439, HK, HB⟩ := hrel
         cases gk with
         | zero => exact absurd HA.out (by simp [impl_tell.l1])
         | succ k3 =>
          have H := HA.out
          clear HA
          simp only [impl_tell.l1] at H
          by_cases c13 : x8_3 ≤ a1_2
          ·rw [if_pos c13] at H
           have c13b0 : decide (x8_3 ≤ a1_2) = true := decide_eq_true c13
           clear c13
           by_cases c14 : 0 ≤ (rd l1_0 x17_2)
           ·rw [if_pos c14] at H
            have c14b0 : decide (0 ≤ (rd l1_0 x17_2)) = true := decide_eq_true c14
            clear c14
            by_cases c15 : (rd l1_0 x17_2) < (x0_3.length : Int)
            ·rw [if_pos c15] at H
             have c15b0 : decide ((rd l1_0 x17_2) < (x0_3.length : Int)) = true := decide_eq_true c15
             clear c15
             by_cases c16 : 0 ≤ x8_3
             ·rw [if_pos c16] at H
              have c16b0 : decide (0 ≤ x8_3) = true := decide_eq_true c16
              clear c16
              by_cases c17 : x8_3 < ((rd_L2 x0_3 (rd l1_0 x17_2)).length : Int)
              ·rw [if_pos c17] at H
               have c17b0 : decide (x8_3 < ((rd_L2 x0_3 (rd l1_0 x17_2)).length : Int)) = true := decide_eq_true c17
               clear c17
               by_cases c18 : (rd (rd_L2 x0_3 (rd l1_0 x17_2)) x8_3) = x5_2
               ·rw [if_pos c18] at H
                have c18b0 : ((rd (rd_L2 x0_3 (rd l1_0 x17_2)) x8_3) == x5_2) = true := beq_iff_eq.mpr c18
                have c18b1 : ((rd (rd_L2 x0_3 (rd l1_0 x17_2)) x8_3) != x5_2) = false := bne_eq_false_iff_eq.mpr c18
                clear c18
                obtain ⟨y444, hy444⟩ : ∃ y_ : List Int, y_ = ((rd_L2 x0_3 (rd l1_0 x17_2)).set (x8_3 : Int).toNat a1_4) := ⟨_, rfl⟩
                replace H : (impl_tell.l1 k3 (x0_3.set ((rd l1_0 x17_2) : Int).toNat y444) x5_2 (rd l1_0 x17_2) (wrap64 (x8_3 + 1)) l1_0 (l1_0.length : Int) x17_2 l1_0 a1_1 a1_2 a1_3 a1_4) = some (r1, r2) := by first | (rw [hy444]; with_reducible exact H) | (have H2_ := (Option.bind_some _ _).symm.trans H; rw [hy444]; with_reducible exact H2_) | (have H2_ := (Option.bind_some _ _).symm.trans H; with_reducible exact H2_) | with_reducible exact H | (rw [hy444]; exact H) | exact H
                have Ny444 := aM hy444
                clear hy444
                obtain ⟨y446, hy446⟩ : ∃ y_ : List (List Int), y_ = (x0_3.set ((rd l1_0 x17_2) : Int).toNat y444) := ⟨_, rfl⟩
                replace H : (impl_tell.l1 k3 y446 x5_2 (rd l1_0 x17_2) (wrap64 (x8_3 + 1)) l1_0 (l1_0.length : Int) x17_2 l1_0 a1_1 a1_2 a1_3 a1_4) = some (r1, r2) := by first | (rw [hy446]; with_reducible exact H) | (have H2_ := (Option.bind_some _ _).symm.trans H; rw [hy446]; with_reducible exact H2_) | (have H2_ := (Option.bind_some _ _).symm.trans H; with_reducible exact H2_) | with_reducible exact H | (rw [hy446]; exact H) | exact H
                have Ny446 := aM hy446
                clear hy446
                have H' := aM H
                clear H
                obtain ⟨hcz20_0, hcz20_1, hcz20_2, hcz20_3, hcz20_4⟩ := kk5 BK439
                obtain ⟨Ao21, co21, eo21⟩ := Kd.S_slice HO_0.out
                subst eo21
                have p441 : 0 ≤ ((rd l1_0 x17_2) : Int) := zA
                have q441 : (rd l1_0 x17_2) < (x0_3.length : Int) := zA
                obtain ⟨ad441, A441_0, c441_0, e441, hx441_0, hl441_0, hi441_0⟩ := at_L2 (Kd.S_reads' HO_0.out).2.2 (rd l1_0 x17_2) p441 q441
                cases e441
                obtain ⟨ce441, hce441, hMe441, hcc441⟩ := Kd.S_get HO_0.out [] (rd l1_0 x17_2) p441 (by first | exact q441 | exact zA | (have e_ := (Kd.S_reads' HO_0.out).1; omega))
                obtain ⟨ve441_0, rfl, ge441_0⟩ := hMe441
                have hv441_0 := hcc441 0 _ rfl
                rw [Nat.add_zero, show ((Kd.slice 3 (Kd.int .i64))).sz = 1 from rfl, Nat.mul_one] at hv441_0
                replace hv441_0 := Option.some.inj (hv441_0.symm.trans hx441_0)
                rw [hv441_0] at ge441_0
                have HL441_0 := aM (show Kd.R (Kd.int .i64) 3 _ _ _ _ (rd_L2 x0_3 (rd l1_0 x17_2)) from ge441_0)
                clear hv441_0 ge441_0
                have HX441_0 := aM hx441_0
                clear hcc441 hce441
                have HR441_0 := aM hi441_0
                have HC441_0 := aM hl441_0
                clear hi441_0 hl441_0
                replace p441 := eq_true p441
                replace q441 := eq_true q441
                have p442 : 0 ≤ (x8_3 : Int) := zA
                have q442 : x8_3 < ((rd_L2 x0_3 (rd l1_0 x17_2)).length : Int) := zA
                obtain ⟨ad442, e442, hx442_0⟩ := Kd.at_int (by repeat (first | (with_reducible exact HR441_0.out) | (with_reducible first | refine Kd.C_alloc ?_ _ | refine Kd.C_drewN ?_ _ | refine Kd.C_drew ?_) | exact HR441_0.out)) x8_3 p442 q442
                cases e442
                replace p442 := eq_true p442
                replace q442 := eq_true q442
                try go_wp2
                have n0_ := aM (Kd.S_drew HO_0.out)
                have n1_ := aM (Kd.R_drew HL441_0.out)
                have n2_ := aM (kD BK439.out)
                have n3_ := aM (Kd.C_drew HR441_0.out)
                have n4_ := aM (Kept.drew HK.out)
                have n5_ := aM (b1 HB.out)
                clear HO_0
                clear HL441_0
                clear BK439
                clear HR441_0
                clear HK
                clear HB
                have HO_0 := n0_
                have HL441_0 := n1_
                have BK439 := n2_
                have HR441_0 := n3_
                have HK := n4_
                have HB := n5_
                clear n0_ n1_ n2_ n3_ n4_ n5_
                have p443 : 0 ≤ ((rd l1_0 x17_2) : Int) := zA
                have q443 : (rd l1_0 x17_2) < (x0_3.length : Int) := zA
                obtain ⟨ad443, A443_0, c443_0, e443, hx443_0, hl443_0, hi443_0⟩ := at_L2 (Kd.S_reads' HO_0.out).2.2 (rd l1_0 x17_2) p443 q443
                obtain rfl : ad441 = ad443 := (by injection e443)
                obtain ⟨ce443, hce443, hMe443, hcc443⟩ := Kd.S_get HO_0.out [] (rd l1_0 x17_2) p443 (by first | exact q443 | exact zA | (have e_ := (Kd.S_reads' HO_0.out).1; omega))
                obtain ⟨ve443_0, rfl, ge443_0⟩ := hMe443
                have hv443_0 := hcc443 0 _ rfl
                rw [Nat.add_zero, show ((Kd.slice 3 (Kd.int .i64))).sz = 1 from rfl, Nat.mul_one] at hv443_0
                replace hv443_0 := Option.some.inj (hv443_0.symm.trans hx443_0)
                rw [hv443_0] at ge443_0
                have HL443_0 := aM (show Kd.R (Kd.int .i64) 3 _ _ _ _ (rd_L2 x0_3 (rd l1_0 x17_2)) from ge443_0)
                clear hv443_0 ge443_0
                have HX443_0 := aM hx443_0
                clear hcc443 hce443
                have HR443_0 := aM hi443_0
                have HC443_0 := aM hl443_0
                clear hi443_0 hl443_0
                replace p443 := eq_true p443
                replace q443 := eq_true q443
                have p19 : 0 ≤ (x8_3 : Int) := zA
                have q19 : (x8_3 : Int) < (((rd_L2 x0_3 (rd l1_0 x17_2)).length : Int) : Int) := zA
                obtain ⟨go19, co19, eo19, gb19, gl19, cl19, HG19⟩ := Kd.R_form HL443_0.out (by omega)
                (first | cases eo19 | (injection eo19 with ea_ en_ ec_; (first | subst ea_ | (injection ea_ with ea_; subst ea_)); subst ec_; clear en_))
                have GB19 := aM gb19
                have GG19 := aM HG19
                clear gb19 gl19 HG19
                have HMgo19 := aM (show (P0_ go19 ∨ w.heap.size ≤ go19) from (HL443_0.out.1 _ rfl).1)
                obtain ⟨hx19_0, hf19_0⟩ := Kd.R_celln 0 HL443_0.out (x8_3 : Int) p19 q19
                replace p19 := eq_true p19
                replace q19 := eq_true q19
                have hq23 : ((rd l1_0 x17_2) : Int) < (x0_3.length : Int) := (by have h_ : ((rd l1_0 x17_2) : Int) < ((x0_3.length : Int) : Int) := zA; first | exact h_ | (have e_ := (Kd.S_reads' HO_0.out).1; omega) | simpa only [List.length_set, List.length_set] using h_)
                obtain ⟨oki23, ce23, hcl23, hM23, hcc23, hok23, hbk23⟩ := Kd.S_borrow HO_0.out [] ((rd l1_0 x17_2) : Int) (zA) hq23
                obtain ⟨ve23_0, rfl, ge23_0⟩ := hM23
                have hv23 := hcc23 0 _ rfl
                rw [Nat.add_zero, show ((Kd.slice 3 (Kd.int .i64))).sz = 1 from rfl, Nat.mul_one] at hv23
                replace hv23 := Option.some.inj (hv23.symm.trans HX443_0.out)
                subst hv23
                clear hcc23 hcl23
                replace ge23_0 := (show Kd.R (Kd.int .i64) 3 _ _ _ _ (rd_L2 x0_3 (rd l1_0 x17_2)) from ge23_0)
                have HP23 := Kd.R_putg ge23_0 (x8_3 : Int) a1_4
                rw [← Ny444.out] at HP23
                have HS23 := hbk23 HP23.2 (fun k_ e_ => by injection e_ with e_; subst e_; exact ge23_0.1 _ rfl) (x' := y444) (Kd.M_row HP23.1)
                rw [← Ny446.out] at HS23
                have HQ23 := aM HS23
                clear HP23 HS23 hbk23 hok23
                refine start_ (n := 9) (S := fun w' => w'.cell? ⟨gb439, 0, none⟩ = some (.slice (some ad440) l1_0.length c1_0) ∧ w'.cell? ⟨gb439, 1, none⟩ = some (.int .i64 a1_1) ∧ w'.cell? ⟨gb439, 2, none⟩ = some (.int .i64 a1_2) ∧ w'.cell? ⟨gb439, 3, none⟩ = some (.int .i64 a1_3) ∧ w'.cell? ⟨gb439, 4, none⟩ = some (.int .i64 a1_4) ∧ w'.cell? (ad441.add ((rd l1_0 x17_2)).toNat) = some (.slice (some ⟨go19, 0, none⟩) (rd_L2 x0_3 (rd l1_0 x17_2)).length c443_0)) (ds := [8]) #[false, false, false, false, false, false, false, false, false] (by kernel_rfl) rfl rfl ⟨(kC BK439.out 0).trans rfl, (kC BK439.out 1).trans rfl, (kC BK439.out 2).trans rfl, (kC BK439.out 3).trans rfl, (kC BK439.out 4).trans rfl, hx443_0⟩ (fun hHeld => ?_); refine with_tabW impl_tell.tab12 impl_tell.bits12 (fun HT_ HW_ => ?_)
                generalize wr.drew = w22 at HO_0 HL441_0 BK439 HR441_0 HK HB GG19 HL443_0 HQ23 HR443_0 HX443_0 hf19_0 hx19_0 hx443_0 hHeld ⊢
                refine zP 0 (some 38) HT_ ?_
                refine zP 1 (some 39) HT_ ?_
                refine zP 2 (some 40) HT_ ?_
                refine zP 4 (some 42) HT_ ?_
                refine zP 5 (some 43) HT_ ?_
                refine zT 3 (some 41) HT_ HW_ hHeld (hy := Or.inl ⟨by rfl, by rintro w' ⟨s0, s1, s2, s3, s4, s5⟩; go_simp; with_reducible rfl⟩) (h := ?_)
                refine zT 6 (some 44) HT_ HW_ hHeld (hy := Or.inl ⟨by rfl, by rintro w' ⟨s0, s1, s2, s3, s4, s5⟩; go_simp; with_reducible rfl⟩) (h := ?_)
                refine zP 7 (some 45) HT_ ?_
                refine last_ (i := 8) (N := none) #[true, true, true, true, true, true, true, true, true] rfl rfl (one_of HT_.out (by kernel_rfl)) (by decide) (fun K hK => ?_)
                refine skip_ (w1 := ?_) (by rfl) rfl ?_ ?_
                rotate_left
                ·go_simp
                 rfl
                refine hK.out _ _ ?_
                clear hK K
                refine done_ (done_of HT_.out (by kernel_rfl)) ?_
                try go_wp2
                go_roundg k3
                case measure => have := HJ2.out; have := HK2.out; have := HK3.out; omega
                case rel => exact ⟨(y446), (wrap64 (x8_3 + 1)), zS, H', ⟨by have := HJ2.out; have := HK2.out; have := HK3.out; omega⟩, ⟨by (with_reducible repeat (first | apply Kd.S_alloc | apply Kd.S_drewN | apply Kd.S_drew)); exact HQ23.out⟩, ⟨by (with_reducible repeat (first | apply kN | apply kD | apply kA)); refine blk_far ?_ (by have h_ := Kd.R_ne HL443_0.out BK439.out (by decide); intro e_; exact h_ (by rw [e_]; rfl)) _; (with_reducible repeat (first | apply kN | apply kD | apply kA)); exact BK439.out⟩, ⟨by repeat (first | (with_reducible first | exact HK.out | apply Kept.alloc | apply Kept.drewN | apply Kept.drew | refine Kept.setCell ?_ HMgo19.out _ | refine Kept.setCell ?_ (.inr GW439.out) _) | exact HK.out)⟩, ⟨by repeat (first | (with_reducible first | exact HB.out | apply bA | apply bN | apply b1 | refine bS ?_ GB19.out | refine bS ?_ GE439.out) | exact HB.out)⟩⟩
               ·rw [if_neg c18] at H
                have c18b0 : ((rd (rd_L2 x0_3 (rd l1_0 x17_2)) x8_3) == x5_2) = false := beq_eq_false_iff_ne.mpr c18
                have c18b1 : ((rd (rd_L2 x0_3 (rd l1_0 x17_2)) x8_3) != x5_2) = true := bne_iff_ne.mpr c18
                simp only [Option.some.injEq, Prod.mk.injEq] at H
                obtain ⟨rfl, rfl⟩ := H
                obtain ⟨hcz25_0, hcz25_1, hcz25_2, hcz25_3, hcz25_4⟩ := kk5 BK439
                obtain ⟨Ao26, co26, eo26⟩ := Kd.S_slice HO_0.out
                subst eo26
                have p441 : 0 ≤ ((rd l1_0 x17_2) : Int) := zA
                have q441 : (rd l1_0 x17_2) < (x0_3.length : Int) := zA
                obtain ⟨ad441, A441_0, c441_0, e441, hx441_0, hl441_0, hi441_0⟩ := at_L2 (Kd.S_reads' HO_0.out).2.2 (rd l1_0 x17_2) p441 q441
                cases e441
                obtain ⟨ce441, hce441, hMe441, hcc441⟩ := Kd.S_get HO_0.out [] (rd l1_0 x17_2) p441 (by first | exact q441 | exact zA | (have e_ := (Kd.S_reads' HO_0.out).1; omega))
                obtain ⟨ve441_0, rfl, ge441_0⟩ := hMe441
                have hv441_0 := hcc441 0 _ rfl
                rw [Nat.add_zero, show ((Kd.slice 3 (Kd.int .i64))).sz = 1 from rfl, Nat.mul_one] at hv441_0
                replace hv441_0 := Option.some.inj (hv441_0.symm.trans hx441_0)
                rw [hv441_0] at ge441_0
                have HL441_0 := aM (show Kd.R (Kd.int .i64) 3 _ _ _ _ (rd_L2 x0_3 (rd l1_0 x17_2)) from ge441_0)
                clear hv441_0 ge441_0
                have HX441_0 := aM hx441_0
                clear hcc441 hce441
                have HR441_0 := aM hi441_0
                have HC441_0 := aM hl441_0
                clear hi441_0 hl441_0
                replace p441 := eq_true p441
                replace q441 := eq_true q441
                have p442 : 0 ≤ (x8_3 : Int) := zA
                have q442 : x8_3 < ((rd_L2 x0_3 (rd l1_0 x17_2)).length : Int) := zA
                obtain ⟨ad442, e442, hx442_0⟩ := Kd.at_int (by repeat (first | (with_reducible exact HR441_0.out) | (with_reducible first | refine Kd.C_alloc ?_ _ | refine Kd.C_drewN ?_ _ | refine Kd.C_drew ?_) | exact HR441_0.out)) x8_3 p442 q442
                cases e442
                replace p442 := eq_true p442
                replace q442 := eq_true q442
                go_wp2
                go_ret
                exact ⟨zR, by (with_reducible repeat (first | apply Kd.S_alloc | apply Kd.S_drewN | apply Kd.S_drew)); exact HO_0.out, zH, by repeat (first | (with_reducible first | exact HK.out | apply Kept.alloc | apply Kept.drewN | apply Kept.drew | refine Kept.setCell ?_ (.inr GW439.out) _) | exact HK.out)⟩
              ·rw [if_neg c17] at H
               exact absurd H (by simp)
             ·rw [if_neg c16] at H
              exact absurd H (by simp)
            ·rw [if_neg c15] at H
             exact absurd H (by simp)
           ·rw [if_neg c14] at H
            exact absurd H (by simp)
          ·rw [if_neg c13] at H
           have c13b0 : decide (x8_3 ≤ a1_2) = false := decide_eq_false c13
           clear c13
           have H' := aM H
           clear H
           obtain ⟨hcz27_0, hcz27_1, hcz27_2, hcz27_3, hcz27_4⟩ := kk5 BK439
           go_wp2
           go_roundg k3
           case measure => have := HJ2.out; have := HK2.out; have := HK3.out; omega
           case rel => exact ⟨(x0_3), (wrap64 (x17_2 + 1)), zS, H', ⟨by have := HJ2.out; have := HK2.out; have := HK3.out; omega⟩, ⟨by (with_reducible repeat (first | apply Kd.S_alloc | apply Kd.S_drewN | apply Kd.S_drew)); exact HO_0.out⟩, ⟨zK BK439⟩, ⟨by repeat (first | (with_reducible first | exact HK.out | apply Kept.alloc | apply Kept.drewN | apply Kept.drew | refine Kept.setCell ?_ (.inr GW439.out) _) | exact HK.out)⟩, ⟨zH⟩⟩
       ·rw [if_neg c11] at H
        exact absurd H (by simp)
      ·rw [if_neg c10] at H
       exact absurd H (by simp)
     ·rw [if_neg c9] at H
      have c9b0 : decide (x17_2 < (l1_0.length : Int)) = false := decide_eq_false c9
      clear c9
      simp only [Option.some.injEq, Prod.mk.injEq] at H
      obtain ⟨rfl, rfl⟩ := H
      go_wp2
      go_ret
      exact ⟨zR, by (with_reducible repeat (first | apply Kd.S_alloc | apply Kd.S_drewN | apply Kd.S_drew)); exact HO_0.out, zH, by repeat (first | (with_reducible first | exact HK.out | apply Kept.alloc | apply Kept.drewN | apply Kept.drew | refine Kept.setCell ?_ (.inr GW439.out) _) | exact HK.out)⟩

theorem tell_l1 (needs : Int) (cs : List Int) (N : Int) (i : Nat) (L : Nat) (c : List Int) (f t hi low x : Int) (ht : t ≤ 63) (hx : 0 ≤ x ∧ x < (L : Int)) (R : List (List Int) → Bool × List (List Int))
    (hR : ∀ out, out.length = L → rw64 out → Ev (fun k => impl_tell.l0 k out needs cs N (wrap64 ((i : Int) + 1)) c f t hi low) (R out)) :
    ∀ (n k : Nat) (out : List (List Int)), (n : Int) + k = t + 1 → out.length = L → rw64 out → Ev (fun q => impl_tell.l1 q out needs x k cs N i c f t hi low) (if (telK x needs low n k out).1 = true then R (telK x needs low n k out).2 else (false, (telK x needs low n k out).2)) := by
  intro n
  induction n with
  | zero =>
    intro k out hk ho hr
    rw [telK, if_pos rfl]
    exact Ev.step (fun q => by rw [impl_tell.l1]) (evNeg (by omega) (hR out ho hr))
  | succ n ih =>
    intro k out hk ho hr
    have h64 := rw64_rd hr hx.1 (by rw [ho]; exact hx.2)
    refine Ev.step (fun q => by rw [impl_tell.l1]) ?_
    refine evPos (by omega) (evPos hx.1 (evPos (by rw [ho]; exact hx.2) (evPos (by omega) (evPos (by rw [h64]; omega) ?_))))
    rw [telK]
    refine evIf (fun he => ?_) (fun he => ?_)
    · rw [if_pos he, Int.toNat_natCast, show (k : Int) + 1 = ((k + 1 : Nat) : Int) from rfl, w64n (by omega)]
      exact ih (k + 1) _ (by omega) (by rw [List.length_set]; exact ho) (rw64_set hr hx.1 (by rw [ho]; exact hx.2))
    · rw [if_neg he, if_neg (by simp)]
      exact Ev.now _
theorem tell_l0 (needs : Int) (c : List Int) (f t hi low : Int) (L : Nat) (hcl : c.length ≤ 1048576) (h0 : 0 ≤ f) (hft : f ≤ t) (ht : t ≤ 63) (hc : ∀ x ∈ c, 0 ≤ x ∧ x < (L : Int)) :
    ∀ (d j : Nat) (out : List (List Int)), j + d = c.length → out.length = L → rw64 out → Ev (fun q => impl_tell.l0 q out needs c (c.length : Int) j c f t hi low) (telC needs low (t - f + 1).toNat f.toNat (c.drop j) out) := by
  intro d
  induction d with
  | zero =>
    intro j out hj ho hr
    rw [List.drop_eq_nil_of_le (by omega), telC]
    exact Ev.step (fun q => by rw [impl_tell.l0]) (evNeg (by omega) (Ev.now _))
  | succ d ih =>
    intro j out hj ho hr
    have hlt : j < c.length := by omega
    have hcj := hc _ (List.getElem_mem hlt)
    refine Ev.step (fun q => by rw [impl_tell.l0]) (evPos (by omega) (evPos (by omega) (evPos (by omega) ?_)))
    rw [show rd c (j : Int) = c[j] from by simp [rd, List.getD, hlt]]
    have key := tell_l1 needs c (c.length : Int) j L c f t hi low c[j] ht hcj (telC needs low (t - f + 1).toNat f.toNat (c.drop (j + 1)))
      (fun out' ho' hr' => by
        rw [show (j : Int) + 1 = ((j + 1 : Nat) : Int) from rfl, w64n (by omega)]
        exact ih (j + 1) out' (by omega) ho' hr') (t - f + 1).toNat f.toNat out (by omega) ho hr
    rw [List.drop_eq_getElem_cons hlt, telC]
    rw [show ((f.toNat : Nat) : Int) = f from by omega] at key
    exact key
theorem tell_f (s : S86) (L : Nat) (hcl : s.f0.length ≤ 1048576) (h0 : 0 ≤ s.f1) (hft : s.f1 ≤ s.f2) (ht : s.f2 ≤ 63) (hc : ∀ x ∈ s.f0, 0 ≤ x ∧ x < (L : Int)) (out : List (List Int)) (ho : out.length = L) (hr : rw64 out) : Ev (fun q => impl_tell.f q out s.f0 s.f1 s.f2 s.f3 s.f4) (telI s out) := by
  unfold impl_tell.f telI needI2
  have key := fun needs => tell_l0 needs s.f0 s.f1 s.f2 s.f3 s.f4 L hcl h0 hft ht hc s.f0.length 0 out (by omega) ho hr
  simp only [List.drop_zero] at key
  refine evIf (fun hz => ?_) (fun hz => ?_)
  · rw [if_pos hz]
    exact Ev.step (fun q => by rw [impl_tell.j0]; rfl) (key s.f3)
  · rw [if_neg hz]
    exact Ev.step (fun q => by rw [impl_tell.j0]; rfl) (key (-1))

end Go.Proofs.Ytpcfjobojdldnaa.CV
