/- Functions that a law of this seat reaches: written by a program of this session (wip/xprint.py), and by hand. -/
import Derived.Test.YthajjjpblkhmmaaYCLx0
import Derived.Test.YthajjjpblkhmmaaYCLx6
namespace Go.Proofs.Ythajjjpblkhmmaa.CL
open Go.RowKit Go.Proofs.Ythajjjpblkhmmaa.B Go.Proofs.YthajjjpblkhmmaaW.PrintWords Go.Proofs.YthajjjpblkhmmaaW.PrintLast Go.Proofs.YthajjjpblkhmmaaW.PrintMore
attribute [local go_sem] max2_int min2_int max_two min_two max_three min_three max_four min_four   -- for this text's walks alone
set_option linter.unusedVariables false
set_option linter.unusedSimpArgs false

/-! ### impl_tell: function 137 -/
mutual
def impl_tell.j0 : Nat → List (List Int) → Int → List Int → Int → Int → Int → Int → Option (Bool × (List (List Int)))
  | 0, _, _, _, _, _, _, _ => none
  | k + 1, x0, x5, x289000, x289001, x289002, x289003, x289004 => impl_tell.l0 k x0 x5 x289000 (x289000.length : Int) 0 x289000 x289001 x289002 x289003 x289004
def impl_tell.l0 : Nat → List (List Int) → Int → List Int → Int → Int → List Int → Int → Int → Int → Int → Option (Bool × (List (List Int)))
  | 0, _, _, _, _, _, _, _, _, _, _ => none
  | k + 1, x0, x5, x15, x16, x17, x289000, x289001, x289002, x289003, x289004 => if x17 < x16 then (if 0 ≤ x17 then (if x17 < (x15.length : Int) then (impl_tell.l1 k x0 x5 (rd x15 x17) x289001 x15 x16 x17 x289000 x289001 x289002 x289003 x289004) else (none)) else (none)) else (some (true, x0))
def impl_tell.l1 : Nat → List (List Int) → Int → Int → Int → List Int → Int → Int → List Int → Int → Int → Int → Int → Option (Bool × (List (List Int)))
  | 0, _, _, _, _, _, _, _, _, _, _, _, _ => none
  | k + 1, x0, x5, x7, x8, x15, x16, x17, x289000, x289001, x289002, x289003, x289004 => if x8 ≤ x289002 then (if 0 ≤ x7 then (if x7 < (x0.length : Int) then (if 0 ≤ x8 then (if x8 < ((rd_L2 x0 x7).length : Int) then (if (rd (rd_L2 x0 x7) x8) = x5 then (impl_tell.l1 k (x0.set (x7 : Int).toNat ((rd_L2 x0 x7).set (x8 : Int).toNat x289004)) x5 x7 (wrap64 (x8 + 1)) x15 x16 x17 x289000 x289001 x289002 x289003 x289004) else (some (false, x0))) else (none)) else (none)) else (none)) else (none)) else (impl_tell.l0 k x0 x5 x15 x16 (wrap64 (x17 + 1)) x289000 x289001 x289002 x289003 x289004)
end
def impl_tell.f (k : Nat) (l0 : List (List Int)) (l1_0 : List Int) (a1_1 : Int) (a1_2 : Int) (a1_3 : Int) (a1_4 : Int) : Option (Bool × (List (List Int))) := if a1_3 > 0 then (impl_tell.j0 k l0 a1_3 l1_0 a1_1 a1_2 a1_3 a1_4) else (impl_tell.j0 k l0 (-1) l1_0 a1_1 a1_2 a1_3 a1_4)
theorem impl_tell.mono_l : ∀ k, (∀ y0 y1 y2 y3 y4 y5 y6, LeO (impl_tell.j0 k y0 y1 y2 y3 y4 y5 y6) (impl_tell.j0 (k + 1) y0 y1 y2 y3 y4 y5 y6)) ∧ (∀ y0 y1 y2 y3 y4 y5 y6 y7 y8 y9, LeO (impl_tell.l0 k y0 y1 y2 y3 y4 y5 y6 y7 y8 y9) (impl_tell.l0 (k + 1) y0 y1 y2 y3 y4 y5 y6 y7 y8 y9)) ∧ (∀ y0 y1 y2 y3 y4 y5 y6 y7 y8 y9 y10 y11, LeO (impl_tell.l1 k y0 y1 y2 y3 y4 y5 y6 y7 y8 y9 y10 y11) (impl_tell.l1 (k + 1) y0 y1 y2 y3 y4 y5 y6 y7 y8 y9 y10 y11))
 | 0 => ⟨fun _ _ _ _ _ _ _ r h => by simp [impl_tell.j0] at h, fun _ _ _ _ _ _ _ _ _ _ r h => by simp [impl_tell.l0] at h, fun _ _ _ _ _ _ _ _ _ _ _ _ r h => by simp [impl_tell.l1] at h⟩
 | k + 1 => by
  obtain ⟨ih0, ih1, ih2⟩ := impl_tell.mono_l k
  refine ⟨?_, ?_, ?_⟩
  ·intro y0 y1 y2 y3 y4 y5 y6
   unfold impl_tell.j0
   repeat' first
   | (with_reducible exact ih0 _ _ _ _ _ _ _)
   | (with_reducible exact ih1 _ _ _ _ _ _ _ _ _ _)
   | (with_reducible exact ih2 _ _ _ _ _ _ _ _ _ _ _ _)
   | (with_reducible exact LeO.refl _)
   | (with_reducible exact LeO.none _)
   | (with_reducible refine LeO.ite ?_ ?_)
   | (with_reducible refine LeO.bind ?_ (fun _ => ?_))
   | exact ih0 _ _ _ _ _ _ _
   | exact ih1 _ _ _ _ _ _ _ _ _ _
   | exact ih2 _ _ _ _ _ _ _ _ _ _ _ _
   | exact LeO.none _
   | refine LeO.ite ?_ ?_
   | refine LeO.bind ?_ (fun _ => ?_)
  ·intro y0 y1 y2 y3 y4 y5 y6 y7 y8 y9
   unfold impl_tell.l0
   repeat' first
   | (with_reducible exact ih0 _ _ _ _ _ _ _)
   | (with_reducible exact ih1 _ _ _ _ _ _ _ _ _ _)
   | (with_reducible exact ih2 _ _ _ _ _ _ _ _ _ _ _ _)
   | (with_reducible exact LeO.refl _)
   | (with_reducible exact LeO.none _)
   | (with_reducible refine LeO.ite ?_ ?_)
   | (with_reducible refine LeO.bind ?_ (fun _ => ?_))
   | exact ih0 _ _ _ _ _ _ _
   | exact ih1 _ _ _ _ _ _ _ _ _ _
   | exact ih2 _ _ _ _ _ _ _ _ _ _ _ _
   | exact LeO.none _
   | refine LeO.ite ?_ ?_
   | refine LeO.bind ?_ (fun _ => ?_)
  ·intro y0 y1 y2 y3 y4 y5 y6 y7 y8 y9 y10 y11
   unfold impl_tell.l1
   repeat' first
   | (with_reducible exact ih0 _ _ _ _ _ _ _)
   | (with_reducible exact ih1 _ _ _ _ _ _ _ _ _ _)
   | (with_reducible exact ih2 _ _ _ _ _ _ _ _ _ _ _ _)
   | (with_reducible exact LeO.refl _)
   | (with_reducible exact LeO.none _)
   | (with_reducible refine LeO.ite ?_ ?_)
   | (with_reducible refine LeO.bind ?_ (fun _ => ?_))
   | exact ih0 _ _ _ _ _ _ _
   | exact ih1 _ _ _ _ _ _ _ _ _ _
   | exact ih2 _ _ _ _ _ _ _ _ _ _ _ _
   | exact LeO.none _
   | refine LeO.ite ?_ ?_
   | refine LeO.bind ?_ (fun _ => ?_)
theorem impl_tell.mono : ∀ a0 a1 a2 a3 a4 a5 k, LeO (impl_tell.f k a0 a1 a2 a3 a4 a5) (impl_tell.f (k + 1) a0 a1 a2 a3 a4 a5) := by
 intro a0 a1 a2 a3 a4 a5 k
 obtain ⟨ih0, ih1, ih2⟩ := impl_tell.mono_l k
 unfold impl_tell.f
 repeat' first
   | (with_reducible exact ih0 _ _ _ _ _ _ _)
   | (with_reducible exact ih1 _ _ _ _ _ _ _ _ _ _)
   | (with_reducible exact ih2 _ _ _ _ _ _ _ _ _ _ _ _)
   | (with_reducible exact LeO.refl _)
   | (with_reducible exact LeO.none _)
   | (with_reducible refine LeO.ite ?_ ?_)
   | (with_reducible refine LeO.bind ?_ (fun _ => ?_))
   | exact ih0 _ _ _ _ _ _ _
   | exact ih1 _ _ _ _ _ _ _ _ _ _
   | exact ih2 _ _ _ _ _ _ _ _ _ _ _ _
   | exact LeO.none _
   | refine LeO.ite ?_ ?_
   | refine LeO.bind ?_ (fun _ => ?_)
def impl_tell.T12 : Bool × List (List Nat × List Nat) := (true, [([], []), ([], []), ([0, 1], [0, 1]), ([2], [2]), ([], []), ([], []), ([5], [5]), ([3, 4, 0, 1, 2, 3, 4, 5, 6], [3, 4]), ([7, 6, 0, 1, 2, 3, 4, 5, 6], [6, 7])])
def impl_tell.B12 : List Nat := [0, 0, 3, 7, 0, 0, 32, 127, 255]
theorem impl_tell.tab12 : rtab .any (opsOf Try.f137 12) = impl_tell.T12 := by kernel_rfl
theorem impl_tell.bits12 : waitsOk impl_tell.T12.2 impl_tell.B12 = true := by kernel_rfl
set_option maxHeartbeats 8000000 in
set_option maxRecDepth 100000 in
theorem impl_tell.calls (k : Nat) (P0_ : Nat → Prop) (u9000_ : Value) (l0 : List (List Int)) (A1_0 : Option Addr) (c1_0 : Nat) (l1_0 : List Int) (a1_1 : Int) (a1_2 : Int) (a1_3 : Int) (a1_4 : Int) (r1 : Bool) (r2 : List (List Int)) (w0 w : World) (hB : Below w0.heap.size w0 w) (ho0 : Kd.S (Kd.slice 3 (Kd.int .i64)) 22 w w0.heap.size P0_ u9000_ l0) (hr1_0 : ∀ W_, Kept w W_ (fun k_ => P0_ k_) → Kd.C (Kd.int .i64) W_ A1_0 l1_0.length l1_0) (hc1_0 : l1_0.length ≤ c1_0) (h : impl_tell.f k l0 l1_0 a1_1 a1_2 a1_3 a1_4 = some (r1, r2)) :
  Calls Try.prog 137 #[u9000_, .agg #[.slice A1_0 l1_0.length c1_0, .int .i64 a1_1, .int .i64 a1_2, .int .i64 a1_3, .int .i64 a1_4]] w fun e w' => e = .returned (.bool r1) ∧ Kd.S (Kd.slice 3 (Kd.int .i64)) 22 w' w0.heap.size (fun k_ => (P0_ k_ ∨ w.heap.size ≤ k_)) u9000_ r2 ∧ Below w0.heap.size w0 w' ∧ Kept w w' (fun k_ => P0_ k_) := by
 have hu28 := Try.underlying28
 have HO0 := aM (show Kd.S (Kd.slice 3 (Kd.int .i64)) 22 w w0.heap.size (fun k_ => (P0_ k_ ∨ w.heap.size ≤ k_)) u9000_ l0 from Kd.S_mono ho0 (fun k_ hk => (.inl hk)))
 have HR1_0 := aM hr1_0
 have HC1_0 := aM hc1_0
 clear hr1_0 hc1_0
 have HK := aM (Kept.refl w (fun k_ => P0_ k_))
 have HW0 := aM hB.size
 have HB := aM hB
 clear hB
 have H : (if a1_3 > 0 then (impl_tell.j0 k l0 a1_3 l1_0 a1_1 a1_2 a1_3 a1_4) else (impl_tell.j0 k l0 (-1) l1_0 a1_1 a1_2 a1_3 a1_4)) = some (r1, r2) := h
 clear h
 have HC3 := aM H
 clear H
 go_enter Try.func137, Try.ntmps137
 go_upto_if 11 with (first | ((with_reducible refine gate_dst (N := 3) rfl ?_); refine box_event ?hg (N := 3) ?hd (cs := #[.slice A1_0 l1_0.length c1_0, .int .i64 a1_1, .int .i64 a1_2, .int .i64 a1_3, .int .i64 a1_4]) (t := 28) ?hr ?_; (case hd => rfl); (case hg => rfl); (case hr => first | (go_simp; done) | (go_simp; rfl)); intro gb288 hg w4 hbox hb; have n0_ := aM (Kd.S_below (by (with_reducible repeat (first | apply Kd.S_alloc | apply Kd.S_drewN | apply Kd.S_drew)); exact HO0.out) hb); have n1_ := aM (Kept.below (S := (fun k_ => P0_ k_)) (by repeat (first | (with_reducible first | exact HK.out | apply Kept.alloc | apply Kept.drewN | apply Kept.drew) | exact HK.out)) hb); have n2_ := aM (below_step (by repeat (first | (with_reducible first | exact HB.out | apply bA | apply bN | apply b1) | exact HB.out)) hb); have n3_ := aM (hbox); have n4_ := aM ((by rw [hg]; exact (by first | exact HK.out.1 | exact (show Kept w _ (fun k_ => P0_ k_) from by repeat (first | (with_reducible first | exact HK.out | apply Kept.alloc | apply Kept.drewN | apply Kept.drew) | exact HK.out)).1) : w.heap.size ≤ gb288)); have n5_ := aM ((by rw [hg]; exact (below_size (by repeat (first | (with_reducible first | exact HB.out | apply bA | apply bN | apply b1) | exact HB.out))) : w0.heap.size ≤ gb288)); clear HO0; clear HK; clear HB; have HO0 := n0_; have HK := n1_; have HB := n2_; have BK288 := n3_; have GW288 := n4_; have GE288 := n5_; clear n0_ n1_ n2_ n3_ n4_ n5_; clear hb hbox hg; have hcz5_0 : w4.cell? ⟨gb288, 0, none⟩ = some (.slice A1_0 l1_0.length c1_0) := (kC BK288.out 0).trans rfl; have hcz5_1 : w4.cell? ⟨gb288, 1, none⟩ = some (.int .i64 a1_1) := (kC BK288.out 1).trans rfl; have hcz5_2 : w4.cell? ⟨gb288, 2, none⟩ = some (.int .i64 a1_2) := (kC BK288.out 2).trans rfl; have hcz5_3 : w4.cell? ⟨gb288, 3, none⟩ = some (.int .i64 a1_3) := (kC BK288.out 3).trans rfl; have hcz5_4 : w4.cell? ⟨gb288, 4, none⟩ = some (.int .i64 a1_4) := (kC BK288.out 4).trans rfl; have hfz5_0 := blk_frozen BK288.out 0; have hfz5_1 := blk_frozen BK288.out 1; have hfz5_2 := blk_frozen BK288.out 2; have hfz5_3 := blk_frozen BK288.out 3; have hfz5_4 := blk_frozen BK288.out 4))
 (try simp only [Act.put, List.setIfInBounds_toArray, List.set_cons_zero, List.set_cons_succ])
 go_cut [5] (fun v5 wc => ∃ (kq : Nat) (x5_2 : Int), v5 = .int .i64 x5_2 ∧ Aside0 (impl_tell.j0 kq l0 x5_2 l1_0 a1_1 a1_2 a1_3 a1_4 = some (r1, r2)) ∧ Aside0 (kq ≤ k) ∧ Aside0 (Kd.S (Kd.slice 3 (Kd.int .i64)) 22 wc w0.heap.size (fun k_ => (P0_ k_ ∨ w.heap.size ≤ k_)) u9000_ l0) ∧ Aside0 (wc.heap[gb288]? = some (.cells #[(.slice A1_0 l1_0.length c1_0), .int .i64 a1_1, .int .i64 a1_2, .int .i64 a1_3, .int .i64 a1_4] 28 (0, 0))) ∧ Aside0 (Kept w wc (fun k_ => P0_ k_)) ∧ Aside0 (Below w0.heap.size w0 wc))
 case first =>
  have H := HC3.out
  clear HC3
  by_cases c6 : a1_3 > 0
  ·rw [if_pos c6] at H
   have c6b0 : decide (0 < a1_3) = true := decide_eq_true c6
   clear c6
   (first | rw [c6b0] | (simp only [i64_w, i32_w]; rw [c6b0]) | skip)
   have H' := aM H
   clear H
   have hcz7_0 : w4.cell? ⟨gb288, 0, none⟩ = some (.slice A1_0 l1_0.length c1_0) := (kC BK288.out 0).trans rfl
   have hcz7_1 : w4.cell? ⟨gb288, 1, none⟩ = some (.int .i64 a1_1) := (kC BK288.out 1).trans rfl
   have hcz7_2 : w4.cell? ⟨gb288, 2, none⟩ = some (.int .i64 a1_2) := (kC BK288.out 2).trans rfl
   have hcz7_3 : w4.cell? ⟨gb288, 3, none⟩ = some (.int .i64 a1_3) := (kC BK288.out 3).trans rfl
   have hcz7_4 : w4.cell? ⟨gb288, 4, none⟩ = some (.int .i64 a1_4) := (kC BK288.out 4).trans rfl
   go_wp2
   go_meet
   case rel => exact ⟨_, (a1_3), (by first | rfl | (simp; done) | (simp [*]; done)), H', ⟨by first | omega | exact Nat.le_refl _⟩, ⟨by (with_reducible repeat (first | apply Kd.S_alloc | apply Kd.S_drewN | apply Kd.S_drew)); exact HO0.out⟩, ⟨by (with_reducible repeat (first | apply kN | apply kD | apply kA)); exact BK288.out⟩, ⟨by repeat (first | (with_reducible first | exact HK.out | apply Kept.alloc | apply Kept.drewN | apply Kept.drew | refine Kept.setCell ?_ (.inr GW288.out) _) | exact HK.out)⟩, ⟨by repeat (first | (with_reducible first | exact HB.out | apply bA | apply bN | apply b1 | refine bS ?_ GE288.out) | exact HB.out)⟩⟩
  ·rw [if_neg c6] at H
   have c6b0 : decide (0 < a1_3) = false := decide_eq_false c6
   clear c6
   (first | rw [c6b0] | (simp only [i64_w, i32_w]; rw [c6b0]) | skip)
   have H' := aM H
   clear H
   go_wp2
   go_meet
   case rel => exact ⟨_, ((-1)), (by first | rfl | (simp; done) | (simp [*]; done)), H', ⟨by first | omega | exact Nat.le_refl _⟩, ⟨by (with_reducible repeat (first | apply Kd.S_alloc | apply Kd.S_drewN | apply Kd.S_drew)); exact HO0.out⟩, ⟨by (with_reducible repeat (first | apply kN | apply kD | apply kA)); exact BK288.out⟩, ⟨by repeat (first | (with_reducible first | exact HK.out | apply Kept.alloc | apply Kept.drewN | apply Kept.drew | refine Kept.setCell ?_ (.inr GW288.out) _) | exact HK.out)⟩, ⟨by repeat (first | (with_reducible first | exact HB.out | apply bA | apply bN | apply b1 | refine bS ?_ GE288.out) | exact HB.out)⟩⟩
 case rest =>
  clear HC3
  (try clear c1); (try clear p2); (try clear c6); (try clear c6b0); (try clear hcz5_0); (try clear hcz5_1); (try clear hcz5_2); (try clear hcz5_3); (try clear hcz5_4); (try clear hcz7_0); (try clear hcz7_1); (try clear hcz7_2); (try clear hcz7_3); (try clear hcz7_4); (try clear hfz5_0); (try clear hfz5_1); (try clear hfz5_2); (try clear hfz5_3); (try clear hfz5_4); (try clear hfz7_0); (try clear hfz7_1); (try clear hfz7_2); (try clear hfz7_3); (try clear hfz7_4)
  obtain ⟨kq, x5_2, rfl, HA, HJ2, HO_0, BK288, HK, HB⟩ := hcut
  cases kq with
  | zero => exact absurd HA.out (by simp [impl_tell.j0])
  | succ kj2 =>
   have H := HA.out
   clear HA
   simp only [impl_tell.j0] at H
   have H' := aM H
   clear H
   have hcz8_0 : wc.cell? ⟨gb288, 0, none⟩ = some (.slice A1_0 l1_0.length c1_0) := (kC BK288.out 0).trans rfl
   have hcz8_1 : wc.cell? ⟨gb288, 1, none⟩ = some (.int .i64 a1_1) := (kC BK288.out 1).trans rfl
   have hcz8_2 : wc.cell? ⟨gb288, 2, none⟩ = some (.int .i64 a1_2) := (kC BK288.out 2).trans rfl
   have hcz8_3 : wc.cell? ⟨gb288, 3, none⟩ = some (.int .i64 a1_3) := (kC BK288.out 3).trans rfl
   have hcz8_4 : wc.cell? ⟨gb288, 4, none⟩ = some (.int .i64 a1_4) := (kC BK288.out 4).trans rfl
   go_wp2
   go_loopg [17] kj2 (fun kq v17 w' => ∃ (x0_2 : List (List Int)) (x17_2 : Int), v17 = .int .i64 x17_2 ∧ Aside0 (impl_tell.l0 kq x0_2 x5_2 l1_0 (l1_0.length : Int) x17_2 l1_0 a1_1 a1_2 a1_3 a1_4 = some (r1, r2)) ∧ Aside0 (kq ≤ kj2) ∧ Aside0 (Kd.S (Kd.slice 3 (Kd.int .i64)) 22 w' w0.heap.size (fun k_ => (P0_ k_ ∨ w.heap.size ≤ k_)) u9000_ x0_2) ∧ Aside0 (w'.heap[gb288]? = some (.cells #[(.slice A1_0 l1_0.length c1_0), .int .i64 a1_1, .int .i64 a1_2, .int .i64 a1_3, .int .i64 a1_4] 28 (0, 0))) ∧ Aside0 (Kept w w' (fun k_ => P0_ k_)) ∧ Aside0 (Below w0.heap.size w0 w'))
   case atStart => exact ⟨(l0), (0), (by first | rfl | (simp; done) | (simp [*]; done)), H', ⟨Nat.le_refl _⟩, ⟨by (with_reducible repeat (first | apply Kd.S_alloc | apply Kd.S_drewN | apply Kd.S_drew)); exact HO_0.out⟩, ⟨by (with_reducible repeat (first | apply kN | apply kD | apply kA)); exact BK288.out⟩, ⟨by repeat (first | (with_reducible first | exact HK.out | apply Kept.alloc | apply Kept.drewN | apply Kept.drew | refine Kept.setCell ?_ (.inr GW288.out) _) | exact HK.out)⟩, ⟨by repeat (first | (with_reducible first | exact HB.out | apply bA | apply bN | apply b1 | refine bS ?_ GE288.out) | exact HB.out)⟩⟩
   case round =>
    clear H'
    (try clear c1); (try clear p2); (try clear c6); (try clear c6b0); (try clear hcz5_0); (try clear hcz5_1); (try clear hcz5_2); (try clear hcz5_3); (try clear hcz5_4); (try clear hcz7_0); (try clear hcz7_1); (try clear hcz7_2); (try clear hcz7_3); (try clear hcz7_4); (try clear hcz8_0); (try clear hcz8_1); (try clear hcz8_2); (try clear hcz8_3); (try clear hcz8_4); (try clear hfz5_0); (try clear hfz5_1); (try clear hfz5_2); (try clear hfz5_3); (try clear hfz5_4); (try clear hfz7_0); (try clear hfz7_1); (try clear hfz7_2); (try clear hfz7_3); (try clear hfz7_4); (try clear hfz8_0); (try clear hfz8_1); (try clear hfz8_2); (try clear hfz8_3); (try clear hfz8_4); (try clear p2)
    obtain ⟨x0_2, x17_2, rfl, HA, HK2, HO_0, BK288, HK, HB⟩ := hrel
    cases gk with
    | zero => exact absurd HA.out (by simp [impl_tell.l0])
    | succ k2 =>
     have H := HA.out
     clear HA
     simp only [impl_tell.l0] at H
     by_cases c9 : x17_2 < (l1_0.length : Int)
     ·rw [if_pos c9] at H
      have c9b0 : decide (x17_2 < (l1_0.length : Int)) = true := decide_eq_true c9
      clear c9
      by_cases c10 : 0 ≤ x17_2
      ·rw [if_pos c10] at H
       have c10b0 : decide (0 ≤ x17_2) = true := decide_eq_true c10
       clear c10
       by_cases c11 : x17_2 < (l1_0.length : Int)
       ·rw [if_pos c11] at H
        have c11b0 : decide (x17_2 < (l1_0.length : Int)) = true := decide_eq_true c11
        clear c11
        have H' := aM H
        clear H
        have p289 : 0 ≤ (x17_2 : Int) := oD (by first | (with_reducible assumption) | assumption)
        have q289 : x17_2 < (l1_0.length : Int) := oD (by first | (with_reducible assumption) | assumption)
        obtain ⟨ad289, e289, hx289_0⟩ := Kd.at_int (Kd.C_kept_now HR1_0.out HK.out) x17_2 p289 q289
        cases e289
        replace p289 := eq_true p289
        replace q289 := eq_true q289
        have hcz12_0 : wr.cell? ⟨gb288, 0, none⟩ = some (.slice (some ad289) l1_0.length c1_0) := (kC BK288.out 0).trans rfl
        have hcz12_1 : wr.cell? ⟨gb288, 1, none⟩ = some (.int .i64 a1_1) := (kC BK288.out 1).trans rfl
        have hcz12_2 : wr.cell? ⟨gb288, 2, none⟩ = some (.int .i64 a1_2) := (kC BK288.out 2).trans rfl
        have hcz12_3 : wr.cell? ⟨gb288, 3, none⟩ = some (.int .i64 a1_3) := (kC BK288.out 3).trans rfl
        have hcz12_4 : wr.cell? ⟨gb288, 4, none⟩ = some (.int .i64 a1_4) := (kC BK288.out 4).trans rfl
        go_wp2
        go_loopg [8] k2 (fun kq v8 w' => ∃ (x0_3 : List (List Int)) (x8_3 : Int), v8 = .int .i64 x8_3 ∧ Aside0 (impl_tell.l1 kq x0_3 x5_2 (rd l1_0 x17_2) x8_3 l1_0 (l1_0.length : Int) x17_2 l1_0 a1_1 a1_2 a1_3 a1_4 = some (r1, r2)) ∧ Aside0 (kq ≤ k2) ∧ Aside0 (Kd.S (Kd.slice 3 (Kd.int .i64)) 22 w' w0.heap.size (fun k_ => (P0_ k_ ∨ w.heap.size ≤ k_)) u9000_ x0_3) ∧ Aside0 (w'.heap[gb288]? = some (.cells #[(.slice (some ad289) l1_0.length c1_0), .int .i64 a1_1, .int .i64 a1_2, .int .i64 a1_3, .int .i64 a1_4] 28 (0, 0))) ∧ Aside0 (Kept w w' (fun k_ => P0_ k_)) ∧ Aside0 (Below w0.heap.size w0 w'))
        case atStart => exact ⟨(x0_2), (a1_1), (by first | rfl | (simp; done) | (simp [*]; done)), H', ⟨Nat.le_refl _⟩, ⟨by (with_reducible repeat (first | apply Kd.S_alloc | apply Kd.S_drewN | apply Kd.S_drew)); exact HO_0.out⟩, ⟨by (with_reducible repeat (first | apply kN | apply kD | apply kA)); exact BK288.out⟩, ⟨by repeat (first | (with_reducible first | exact HK.out | apply Kept.alloc | apply Kept.drewN | apply Kept.drew | refine Kept.setCell ?_ (.inr GW288.out) _) | exact HK.out)⟩, ⟨by repeat (first | (with_reducible first | exact HB.out | apply bA | apply bN | apply b1 | refine bS ?_ GE288.out) | exact HB.out)⟩⟩
        case round =>
         clear H'
         (try clear c1); (try clear p2); (try clear q2); (try clear hx2); (try clear c6); (try clear c6b0); (try clear c9); (try clear c9b0); (try clear c10); (try clear c10b0); (try clear c11); (try clear c11b0); (try clear hcz12_0); (try clear hcz12_1); (try clear hcz12_2); (try clear hcz12_3); (try clear hcz12_4); (try clear hcz5_0); (try clear hcz5_1); (try clear hcz5_2); (try clear hcz5_3); (try clear hcz5_4); (try clear hcz7_0); (try clear hcz7_1); (try clear hcz7_2); (try clear hcz7_3); (try clear hcz7_4); (try clear hcz8_0); (try clear hcz8_1); (try clear hcz8_2); (try clear hcz8_3); (try clear hcz8_4); (try clear hfz12_0); (try clear hfz12_1); (try clear hfz12_2); (try clear hfz12_3); (try clear hfz12_4); (try clear hfz5_0); (try clear hfz5_1); (try clear hfz5_2); (try clear hfz5_3); (try clear hfz5_4); (try clear hfz7_0); (try clear hfz7_1); (try clear hfz7_2); (try clear hfz7_3); (try clear hfz7_4); (try clear hfz8_0); (try clear hfz8_1); (try clear hfz8_2); (try clear hfz8_3); (try clear hfz8_4); (try clear hx289_0); (try clear p2); (try clear p289); (try clear q289)
         obtain ⟨x0_3, x8_3, rfl, HA, HK3, HO_0, BK288, HK, HB⟩ := hrel
         cases gk with
         | zero => exact absurd HA.out (by simp [impl_tell.l1])
         | succ k3 =>
          have H := HA.out
          clear HA
          simp only [impl_tell.l1] at H
          by_cases c13 : x8_3 ≤ a1_2
          ·rw [if_pos c13] at H
           have c13b0 : decide (x8_3 ≤ a1_2) = true := decide_eq_true c13
           clear c13
           by_cases c14 : 0 ≤ (rd l1_0 x17_2)
           ·rw [if_pos c14] at H
            have c14b0 : decide (0 ≤ (rd l1_0 x17_2)) = true := decide_eq_true c14
            clear c14
            by_cases c15 : (rd l1_0 x17_2) < (x0_3.length : Int)
            ·rw [if_pos c15] at H
             have c15b0 : decide ((rd l1_0 x17_2) < (x0_3.length : Int)) = true := decide_eq_true c15
             clear c15
             by_cases c16 : 0 ≤ x8_3
             ·rw [if_pos c16] at H
              have c16b0 : decide (0 ≤ x8_3) = true := decide_eq_true c16
              clear c16
              by_cases c17 : x8_3 < ((rd_L2 x0_3 (rd l1_0 x17_2)).length : Int)
              ·rw [if_pos c17] at H
               have c17b0 : decide (x8_3 < ((rd_L2 x0_3 (rd l1_0 x17_2)).length : Int)) = true := decide_eq_true c17
               clear c17
               by_cases c18 : (rd (rd_L2 x0_3 (rd l1_0 x17_2)) x8_3) = x5_2
               ·rw [if_pos c18] at H
                have c18b0 : ((rd (rd_L2 x0_3 (rd l1_0 x17_2)) x8_3) == x5_2) = true := beq_iff_eq.mpr c18
                have c18b1 : ((rd (rd_L2 x0_3 (rd l1_0 x17_2)) x8_3) != x5_2) = false := bne_eq_false_iff_eq.mpr c18
                clear c18
                obtain ⟨y293, hy293⟩ : ∃ y_ : List Int, y_ = ((rd_L2 x0_3 (rd l1_0 x17_2)).set (x8_3 : Int).toNat a1_4) := ⟨_, rfl⟩
                replace H : (impl_tell.l1 k3 (x0_3.set ((rd l1_0 x17_2) : Int).toNat y293) x5_2 (rd l1_0 x17_2) (wrap64 (x8_3 + 1)) l1_0 (l1_0.length : Int) x17_2 l1_0 a1_1 a1_2 a1_3 a1_4) = some (r1, r2) := by first | (rw [hy293]; with_reducible exact H) | (have H2_ := (Option.bind_some _ _).symm.trans H; rw [hy293]; with_reducible exact H2_) | (have H2_ := (Option.bind_some _ _).symm.trans H; with_reducible exact H2_) | with_reducible exact H | (rw [hy293]; exact H) | exact H
                have Ny293 := aM hy293
                clear hy293
                obtain ⟨y295, hy295⟩ : ∃ y_ : List (List Int), y_ = (x0_3.set ((rd l1_0 x17_2) : Int).toNat y293) := ⟨_, rfl⟩
                replace H : (impl_tell.l1 k3 y295 x5_2 (rd l1_0 x17_2) (wrap64 (x8_3 + 1)) l1_0 (l1_0.length : Int) x17_2 l1_0 a1_1 a1_2 a1_3 a1_4) = some (r1, r2) := by first | (rw [hy295]; with_reducible exact H) | (have H2_ := (Option.bind_some _ _).symm.trans H; rw [hy295]; with_reducible exact H2_) | (have H2_ := (Option.bind_some _ _).symm.trans H; with_reducible exact H2_) | with_reducible exact H | (rw [hy295]; exact H) | exact H
                have Ny295 := aM hy295
                clear hy295
                have H' := aM H
                clear H
                have hcz20_0 : wr.cell? ⟨gb288, 0, none⟩ = some (.slice (some ad289) l1_0.length c1_0) := (kC BK288.out 0).trans rfl
                have hcz20_1 : wr.cell? ⟨gb288, 1, none⟩ = some (.int .i64 a1_1) := (kC BK288.out 1).trans rfl
                have hcz20_2 : wr.cell? ⟨gb288, 2, none⟩ = some (.int .i64 a1_2) := (kC BK288.out 2).trans rfl
                have hcz20_3 : wr.cell? ⟨gb288, 3, none⟩ = some (.int .i64 a1_3) := (kC BK288.out 3).trans rfl
                have hcz20_4 : wr.cell? ⟨gb288, 4, none⟩ = some (.int .i64 a1_4) := (kC BK288.out 4).trans rfl
                obtain ⟨Ao21, co21, eo21⟩ := Kd.S_slice HO_0.out
                subst eo21
                have p290 : 0 ≤ ((rd l1_0 x17_2) : Int) := oD (by first | (with_reducible assumption) | assumption)
                have q290 : (rd l1_0 x17_2) < (x0_3.length : Int) := oD (by first | (with_reducible assumption) | assumption)
                obtain ⟨ad290, A290_0, c290_0, e290, hx290_0, hl290_0, hi290_0⟩ := at_L2 (Kd.S_reads' HO_0.out).2.2 (rd l1_0 x17_2) p290 q290
                cases e290
                obtain ⟨ce290, hce290, hMe290, hcc290⟩ := Kd.S_get HO_0.out [] (rd l1_0 x17_2) p290 (by first | exact q290 | exact oD (by first | (with_reducible assumption) | assumption) | (have e_ := (Kd.S_reads' HO_0.out).1; omega))
                obtain ⟨ve290_0, rfl, ge290_0⟩ := hMe290
                have hv290_0 := hcc290 0 _ rfl
                rw [Nat.add_zero, show ((Kd.slice 3 (Kd.int .i64))).sz = 1 from rfl, Nat.mul_one] at hv290_0
                replace hv290_0 := Option.some.inj (hv290_0.symm.trans hx290_0)
                rw [hv290_0] at ge290_0
                have HL290_0 := aM (show Kd.R (Kd.int .i64) 3 _ _ _ _ (rd_L2 x0_3 (rd l1_0 x17_2)) from ge290_0)
                clear hv290_0 ge290_0
                have HX290_0 := aM hx290_0
                clear hcc290 hce290
                have HR290_0 := aM hi290_0
                have HC290_0 := aM hl290_0
                clear hi290_0 hl290_0
                replace p290 := eq_true p290
                replace q290 := eq_true q290
                have p291 : 0 ≤ (x8_3 : Int) := oD (by first | (with_reducible assumption) | assumption)
                have q291 : x8_3 < ((rd_L2 x0_3 (rd l1_0 x17_2)).length : Int) := oD (by first | (with_reducible assumption) | assumption)
                obtain ⟨ad291, e291, hx291_0⟩ := Kd.at_int (by repeat (first | (with_reducible exact HR290_0.out) | (with_reducible first | refine Kd.C_alloc ?_ _ | refine Kd.C_drewN ?_ _ | refine Kd.C_drew ?_) | exact HR290_0.out)) x8_3 p291 q291
                cases e291
                replace p291 := eq_true p291
                replace q291 := eq_true q291
                try go_wp2
                have n0_ := aM (Kd.S_drew HO_0.out)
                have n1_ := aM (Kd.R_drew HL290_0.out)
                have n2_ := aM (kD BK288.out)
                have n3_ := aM (Kd.C_drew HR290_0.out)
                have n4_ := aM (Kept.drew HK.out)
                have n5_ := aM (b1 HB.out)
                clear HO_0
                clear HL290_0
                clear BK288
                clear HR290_0
                clear HK
                clear HB
                have HO_0 := n0_
                have HL290_0 := n1_
                have BK288 := n2_
                have HR290_0 := n3_
                have HK := n4_
                have HB := n5_
                clear n0_ n1_ n2_ n3_ n4_ n5_
                have p292 : 0 ≤ ((rd l1_0 x17_2) : Int) := oD (by first | (with_reducible assumption) | assumption)
                have q292 : (rd l1_0 x17_2) < (x0_3.length : Int) := oD (by first | (with_reducible assumption) | assumption)
                obtain ⟨ad292, A292_0, c292_0, e292, hx292_0, hl292_0, hi292_0⟩ := at_L2 (Kd.S_reads' HO_0.out).2.2 (rd l1_0 x17_2) p292 q292
                obtain rfl : ad290 = ad292 := (by injection e292)
                obtain ⟨ce292, hce292, hMe292, hcc292⟩ := Kd.S_get HO_0.out [] (rd l1_0 x17_2) p292 (by first | exact q292 | exact oD (by first | (with_reducible assumption) | assumption) | (have e_ := (Kd.S_reads' HO_0.out).1; omega))
                obtain ⟨ve292_0, rfl, ge292_0⟩ := hMe292
                have hv292_0 := hcc292 0 _ rfl
                rw [Nat.add_zero, show ((Kd.slice 3 (Kd.int .i64))).sz = 1 from rfl, Nat.mul_one] at hv292_0
                replace hv292_0 := Option.some.inj (hv292_0.symm.trans hx292_0)
                rw [hv292_0] at ge292_0
                have HL292_0 := aM (show Kd.R (Kd.int .i64) 3 _ _ _ _ (rd_L2 x0_3 (rd l1_0 x17_2)) from ge292_0)
                clear hv292_0 ge292_0
                have HX292_0 := aM hx292_0
                clear hcc292 hce292
                have HR292_0 := aM hi292_0
                have HC292_0 := aM hl292_0
                clear hi292_0 hl292_0
                replace p292 := eq_true p292
                replace q292 := eq_true q292
                have p19 : 0 ≤ (x8_3 : Int) := oD (by first | (with_reducible assumption) | assumption)
                have q19 : (x8_3 : Int) < (((rd_L2 x0_3 (rd l1_0 x17_2)).length : Int) : Int) := oD (by first | (with_reducible assumption) | assumption)
                obtain ⟨go19, co19, eo19, gb19, gl19, cl19, HG19⟩ := Kd.R_form HL292_0.out (by omega)
                (first | cases eo19 | (injection eo19 with ea_ en_ ec_; (first | subst ea_ | (injection ea_ with ea_; subst ea_)); subst ec_; clear en_))
                have GB19 := aM gb19
                have GG19 := aM HG19
                clear gb19 gl19 HG19
                have HMgo19 := aM (show (P0_ go19 ∨ w.heap.size ≤ go19) from (HL292_0.out.1 _ rfl).1)
                obtain ⟨hx19_0, hf19_0⟩ := Kd.R_celln 0 HL292_0.out (x8_3 : Int) p19 q19
                replace p19 := eq_true p19
                replace q19 := eq_true q19
                have hq23 : ((rd l1_0 x17_2) : Int) < (x0_3.length : Int) := (by have h_ : ((rd l1_0 x17_2) : Int) < ((x0_3.length : Int) : Int) := oD (by first | (with_reducible assumption) | assumption); first | exact h_ | (have e_ := (Kd.S_reads' HO_0.out).1; omega) | simpa only [List.length_set, List.length_set] using h_)
                obtain ⟨oki23, ce23, hcl23, hM23, hcc23, hok23, hbk23⟩ := Kd.S_borrow HO_0.out [] ((rd l1_0 x17_2) : Int) (oD (by first | (with_reducible assumption) | assumption)) hq23
                obtain ⟨ve23_0, rfl, ge23_0⟩ := hM23
                have hv23 := hcc23 0 _ rfl
                rw [Nat.add_zero, show ((Kd.slice 3 (Kd.int .i64))).sz = 1 from rfl, Nat.mul_one] at hv23
                replace hv23 := Option.some.inj (hv23.symm.trans HX292_0.out)
                subst hv23
                clear hcc23 hcl23
                replace ge23_0 := (show Kd.R (Kd.int .i64) 3 _ _ _ _ (rd_L2 x0_3 (rd l1_0 x17_2)) from ge23_0)
                have HP23 := Kd.R_putg ge23_0 (x8_3 : Int) a1_4
                rw [← Ny293.out] at HP23
                have HS23 := hbk23 HP23.2 (fun k_ e_ => by injection e_ with e_; subst e_; exact ge23_0.1 _ rfl) (x' := y293) (Kd.M_row HP23.1)
                rw [← Ny295.out] at HS23
                have HQ23 := aM HS23
                clear HP23 HS23 hbk23 hok23
                refine start_ (n := 9) (S := fun w' => w'.cell? ⟨gb288, 0, none⟩ = some (.slice (some ad289) l1_0.length c1_0) ∧ w'.cell? ⟨gb288, 1, none⟩ = some (.int .i64 a1_1) ∧ w'.cell? ⟨gb288, 2, none⟩ = some (.int .i64 a1_2) ∧ w'.cell? ⟨gb288, 3, none⟩ = some (.int .i64 a1_3) ∧ w'.cell? ⟨gb288, 4, none⟩ = some (.int .i64 a1_4) ∧ w'.cell? (ad290.add ((rd l1_0 x17_2)).toNat) = some (.slice (some ⟨go19, 0, none⟩) (rd_L2 x0_3 (rd l1_0 x17_2)).length c292_0)) (ds := [8]) #[false, false, false, false, false, false, false, false, false] (by kernel_rfl) rfl rfl ⟨(kC BK288.out 0).trans rfl, (kC BK288.out 1).trans rfl, (kC BK288.out 2).trans rfl, (kC BK288.out 3).trans rfl, (kC BK288.out 4).trans rfl, hx292_0⟩ (fun hHeld => ?_); refine with_tabW impl_tell.tab12 impl_tell.bits12 (fun HT_ HW_ => ?_)
                generalize wr.drew = w22 at HO_0 HL290_0 BK288 HR290_0 HK HB GG19 HL292_0 HQ23 HR292_0 HX292_0 hf19_0 hx19_0 hx292_0 hHeld ⊢
                refine pure_ (i := 0) (N := some 38) (v := ?_) (a' := ?_) #[true, false, false, false, false, false, false, false, false] rfl rfl (any_of HT_.out (by kernel_rfl)) (fun _ _ _ h => h) (Or.inl ⟨by rfl, ?_⟩) ?_ ?_
                rotate_left
                ·intro w'
                 go_simp
                 with_reducible rfl
                rotate_left
                ·simp only [Act.put, List.setIfInBounds_toArray, List.set_cons_zero, List.set_cons_succ, i64_w, i32_w]
                 rfl
                refine pure_ (i := 1) (N := some 39) (v := ?_) (a' := ?_) #[true, true, false, false, false, false, false, false, false] rfl rfl (any_of HT_.out (by kernel_rfl)) (fun _ _ _ h => h) (Or.inl ⟨by rfl, ?_⟩) ?_ ?_
                rotate_left
                ·intro w'
                 go_simp
                 with_reducible rfl
                rotate_left
                ·simp only [Act.put, List.setIfInBounds_toArray, List.set_cons_zero, List.set_cons_succ, i64_w, i32_w]
                 rfl
                refine pure_ (i := 2) (N := some 40) (v := ?_) (a' := ?_) #[true, true, true, false, false, false, false, false, false] rfl rfl (any_of HT_.out (by kernel_rfl)) (fun _ _ _ h => h) (Or.inl ⟨by rfl, ?_⟩) ?_ ?_
                rotate_left
                ·intro w'
                 go_simp
                 with_reducible rfl
                rotate_left
                ·simp only [Act.put, List.setIfInBounds_toArray, List.set_cons_zero, List.set_cons_succ, i64_w, i32_w]
                 rfl
                refine pure_ (i := 4) (N := some 42) (v := ?_) (a' := ?_) #[true, true, true, false, true, false, false, false, false] rfl rfl (any_of HT_.out (by kernel_rfl)) (fun _ _ _ h => h) (Or.inl ⟨by rfl, ?_⟩) ?_ ?_
                rotate_left
                ·intro w'
                 go_simp
                 with_reducible rfl
                rotate_left
                ·simp only [Act.put, List.setIfInBounds_toArray, List.set_cons_zero, List.set_cons_succ, i64_w, i32_w]
                 rfl
                refine pure_ (i := 5) (N := some 43) (v := ?_) (a' := ?_) #[true, true, true, false, true, true, false, false, false] rfl rfl (any_of HT_.out (by kernel_rfl)) (fun _ _ _ h => h) (Or.inl ⟨by rfl, ?_⟩) ?_ ?_
                rotate_left
                ·intro w'
                 go_simp
                 with_reducible rfl
                rotate_left
                ·simp only [Act.put, List.setIfInBounds_toArray, List.set_cons_zero, List.set_cons_succ, i64_w, i32_w]
                 rfl
                refine take_ (i := 3) (N := some 41) (v := ?_) (a' := ?_) #[true, true, true, true, true, true, false, false, false] rfl rfl (take_ofW HT_.out HW_.out (by kernel_rfl)) (fun _ _ _ h => h) (Or.inl ⟨by rfl, ?_⟩) hHeld ?_ ?_
                rotate_left
                ·rintro w' ⟨s0, s1, s2, s3, s4, s5⟩
                 go_simp
                 with_reducible rfl
                rotate_left
                ·simp only [Act.put, List.setIfInBounds_toArray, List.set_cons_zero, List.set_cons_succ, i64_w, i32_w]
                 rfl
                refine take_ (i := 6) (N := some 44) (v := ?_) (a' := ?_) #[true, true, true, true, true, true, true, false, false] rfl rfl (take_ofW HT_.out HW_.out (by kernel_rfl)) (fun _ _ _ h => h) (Or.inl ⟨by rfl, ?_⟩) hHeld ?_ ?_
                rotate_left
                ·rintro w' ⟨s0, s1, s2, s3, s4, s5⟩
                 go_simp
                 with_reducible rfl
                rotate_left
                ·simp only [Act.put, List.setIfInBounds_toArray, List.set_cons_zero, List.set_cons_succ, i64_w, i32_w]
                 rfl
                refine pure_ (i := 7) (N := some 45) (v := ?_) (a' := ?_) #[true, true, true, true, true, true, true, true, false] rfl rfl (any_of HT_.out (by kernel_rfl)) (fun _ _ _ h => h) (Or.inl ⟨by rfl, ?_⟩) ?_ ?_
                rotate_left
                ·intro w'
                 go_simp
                 with_reducible rfl
                rotate_left
                ·simp only [Act.put, List.setIfInBounds_toArray, List.set_cons_zero, List.set_cons_succ, i64_w, i32_w]
                 rfl
                refine last_ (i := 8) (N := none) #[true, true, true, true, true, true, true, true, true] rfl rfl (one_of HT_.out (by kernel_rfl)) (by decide) (fun K hK => ?_)
                refine skip_ (w1 := ?_) (by rfl) rfl ?_ ?_
                rotate_left
                ·go_simp
                 rfl
                refine hK.out _ _ ?_
                clear hK K
                refine done_ (done_of HT_.out (by kernel_rfl)) ?_
                try go_wp2
                go_roundg k3
                case measure => have := HJ2.out; have := HK2.out; have := HK3.out; omega
                case rel => exact ⟨(y295), (wrap64 (x8_3 + 1)), (by first | rfl | (simp; done) | (simp [*]; done)), H', ⟨by have := HJ2.out; have := HK2.out; have := HK3.out; omega⟩, ⟨by (with_reducible repeat (first | apply Kd.S_alloc | apply Kd.S_drewN | apply Kd.S_drew)); exact HQ23.out⟩, ⟨by (with_reducible repeat (first | apply kN | apply kD | apply kA)); refine blk_far ?_ (by have h_ := Kd.R_ne HL292_0.out BK288.out (by decide); intro e_; exact h_ (by rw [e_]; rfl)) _; (with_reducible repeat (first | apply kN | apply kD | apply kA)); exact BK288.out⟩, ⟨by repeat (first | (with_reducible first | exact HK.out | apply Kept.alloc | apply Kept.drewN | apply Kept.drew | refine Kept.setCell ?_ HMgo19.out _ | refine Kept.setCell ?_ (.inr GW288.out) _) | exact HK.out)⟩, ⟨by repeat (first | (with_reducible first | exact HB.out | apply bA | apply bN | apply b1 | refine bS ?_ GB19.out | refine bS ?_ GE288.out) | exact HB.out)⟩⟩
               ·rw [if_neg c18] at H
                have c18b0 : ((rd (rd_L2 x0_3 (rd l1_0 x17_2)) x8_3) == x5_2) = false := beq_eq_false_iff_ne.mpr c18
                have c18b1 : ((rd (rd_L2 x0_3 (rd l1_0 x17_2)) x8_3) != x5_2) = true := bne_iff_ne.mpr c18
                simp only [Option.some.injEq, Prod.mk.injEq] at H
                obtain ⟨rfl, rfl⟩ := H
                have hcz25_0 : wr.cell? ⟨gb288, 0, none⟩ = some (.slice (some ad289) l1_0.length c1_0) := (kC BK288.out 0).trans rfl
                have hcz25_1 : wr.cell? ⟨gb288, 1, none⟩ = some (.int .i64 a1_1) := (kC BK288.out 1).trans rfl
                have hcz25_2 : wr.cell? ⟨gb288, 2, none⟩ = some (.int .i64 a1_2) := (kC BK288.out 2).trans rfl
                have hcz25_3 : wr.cell? ⟨gb288, 3, none⟩ = some (.int .i64 a1_3) := (kC BK288.out 3).trans rfl
                have hcz25_4 : wr.cell? ⟨gb288, 4, none⟩ = some (.int .i64 a1_4) := (kC BK288.out 4).trans rfl
                obtain ⟨Ao26, co26, eo26⟩ := Kd.S_slice HO_0.out
                subst eo26
                have p290 : 0 ≤ ((rd l1_0 x17_2) : Int) := oD (by first | (with_reducible assumption) | assumption)
                have q290 : (rd l1_0 x17_2) < (x0_3.length : Int) := oD (by first | (with_reducible assumption) | assumption)
                obtain ⟨ad290, A290_0, c290_0, e290, hx290_0, hl290_0, hi290_0⟩ := at_L2 (Kd.S_reads' HO_0.out).2.2 (rd l1_0 x17_2) p290 q290
                cases e290
                obtain ⟨ce290, hce290, hMe290, hcc290⟩ := Kd.S_get HO_0.out [] (rd l1_0 x17_2) p290 (by first | exact q290 | exact oD (by first | (with_reducible assumption) | assumption) | (have e_ := (Kd.S_reads' HO_0.out).1; omega))
                obtain ⟨ve290_0, rfl, ge290_0⟩ := hMe290
                have hv290_0 := hcc290 0 _ rfl
                rw [Nat.add_zero, show ((Kd.slice 3 (Kd.int .i64))).sz = 1 from rfl, Nat.mul_one] at hv290_0
                replace hv290_0 := Option.some.inj (hv290_0.symm.trans hx290_0)
                rw [hv290_0] at ge290_0
                have HL290_0 := aM (show Kd.R (Kd.int .i64) 3 _ _ _ _ (rd_L2 x0_3 (rd l1_0 x17_2)) from ge290_0)
                clear hv290_0 ge290_0
                have HX290_0 := aM hx290_0
                clear hcc290 hce290
                have HR290_0 := aM hi290_0
                have HC290_0 := aM hl290_0
                clear hi290_0 hl290_0
                replace p290 := eq_true p290
                replace q290 := eq_true q290
                have p291 : 0 ≤ (x8_3 : Int) := oD (by first | (with_reducible assumption) | assumption)
                have q291 : x8_3 < ((rd_L2 x0_3 (rd l1_0 x17_2)).length : Int) := oD (by first | (with_reducible assumption) | assumption)
                obtain ⟨ad291, e291, hx291_0⟩ := Kd.at_int (by repeat (first | (with_reducible exact HR290_0.out) | (with_reducible first | refine Kd.C_alloc ?_ _ | refine Kd.C_drewN ?_ _ | refine Kd.C_drew ?_) | exact HR290_0.out)) x8_3 p291 q291
                cases e291
                replace p291 := eq_true p291
                replace q291 := eq_true q291
                go_wp2
                go_ret
                exact ⟨by first | rfl | (simp [*, errW_none, errW_some] <;> rfl), by (with_reducible repeat (first | apply Kd.S_alloc | apply Kd.S_drewN | apply Kd.S_drew)); exact HO_0.out, by repeat (first | (with_reducible first | exact HB.out | apply bA | apply bN | apply b1 | refine bS ?_ GE288.out) | exact HB.out), by repeat (first | (with_reducible first | exact HK.out | apply Kept.alloc | apply Kept.drewN | apply Kept.drew | refine Kept.setCell ?_ (.inr GW288.out) _) | exact HK.out)⟩
              ·rw [if_neg c17] at H
               exact absurd H (by simp)
             ·rw [if_neg c16] at H
              exact absurd H (by simp)
            ·rw [if_neg c15] at H
             exact absurd H (by simp)
           ·rw [if_neg c14] at H
            exact absurd H (by simp)
          ·rw [if_neg c13] at H
           have c13b0 : decide (x8_3 ≤ a1_2) = false := decide_eq_false c13
           clear c13
           have H' := aM H
           clear H
           have hcz27_0 : wr.cell? ⟨gb288, 0, none⟩ = some (.slice (some ad289) l1_0.length c1_0) := (kC BK288.out 0).trans rfl
           have hcz27_1 : wr.cell? ⟨gb288, 1, none⟩ = some (.int .i64 a1_1) := (kC BK288.out 1).trans rfl
           have hcz27_2 : wr.cell? ⟨gb288, 2, none⟩ = some (.int .i64 a1_2) := (kC BK288.out 2).trans rfl
           have hcz27_3 : wr.cell? ⟨gb288, 3, none⟩ = some (.int .i64 a1_3) := (kC BK288.out 3).trans rfl
           have hcz27_4 : wr.cell? ⟨gb288, 4, none⟩ = some (.int .i64 a1_4) := (kC BK288.out 4).trans rfl
           go_wp2
           go_roundg k3
           case measure => have := HJ2.out; have := HK2.out; have := HK3.out; omega
           case rel => exact ⟨(x0_3), (wrap64 (x17_2 + 1)), (by first | rfl | (simp; done) | (simp [*]; done)), H', ⟨by have := HJ2.out; have := HK2.out; have := HK3.out; omega⟩, ⟨by (with_reducible repeat (first | apply Kd.S_alloc | apply Kd.S_drewN | apply Kd.S_drew)); exact HO_0.out⟩, ⟨by (with_reducible repeat (first | apply kN | apply kD | apply kA)); exact BK288.out⟩, ⟨by repeat (first | (with_reducible first | exact HK.out | apply Kept.alloc | apply Kept.drewN | apply Kept.drew | refine Kept.setCell ?_ (.inr GW288.out) _) | exact HK.out)⟩, ⟨by repeat (first | (with_reducible first | exact HB.out | apply bA | apply bN | apply b1 | refine bS ?_ GE288.out) | exact HB.out)⟩⟩
       ·rw [if_neg c11] at H
        exact absurd H (by simp)
      ·rw [if_neg c10] at H
       exact absurd H (by simp)
     ·rw [if_neg c9] at H
      have c9b0 : decide (x17_2 < (l1_0.length : Int)) = false := decide_eq_false c9
      clear c9
      simp only [Option.some.injEq, Prod.mk.injEq] at H
      obtain ⟨rfl, rfl⟩ := H
      go_wp2
      go_ret
      exact ⟨by first | rfl | (simp [*, errW_none, errW_some] <;> rfl), by (with_reducible repeat (first | apply Kd.S_alloc | apply Kd.S_drewN | apply Kd.S_drew)); exact HO_0.out, by repeat (first | (with_reducible first | exact HB.out | apply bA | apply bN | apply b1 | refine bS ?_ GE288.out) | exact HB.out), by repeat (first | (with_reducible first | exact HK.out | apply Kept.alloc | apply Kept.drewN | apply Kept.drew | refine Kept.setCell ?_ (.inr GW288.out) _) | exact HK.out)⟩

theorem tell_l1 (needs : Int) (cs : List Int) (N : Int) (i : Nat) (L : Nat) (c : List Int) (f t hi low x : Int) (ht : t ≤ 63) (hx : 0 ≤ x ∧ x < (L : Int)) (R : List (List Int) → Bool × List (List Int))
    (hR : ∀ out, out.length = L → rw64 out → Ev (fun k => impl_tell.l0 k out needs cs N (wrap64 ((i : Int) + 1)) c f t hi low) (R out)) :
    ∀ (n k : Nat) (out : List (List Int)), (n : Int) + k = t + 1 → out.length = L → rw64 out → Ev (fun q => impl_tell.l1 q out needs x k cs N i c f t hi low) (if (telK x needs low n k out).1 = true then R (telK x needs low n k out).2 else (false, (telK x needs low n k out).2)) := by
  intro n
  induction n with
  | zero =>
    intro k out hk ho hr
    rw [telK, if_pos rfl]
    exact Ev.step (fun q => by rw [impl_tell.l1]) (evNeg (by omega) (hR out ho hr))
  | succ n ih =>
    intro k out hk ho hr
    have h64 := rw64_rd hr hx.1 (by rw [ho]; exact hx.2)
    refine Ev.step (fun q => by rw [impl_tell.l1]) ?_
    refine evPos (by omega) (evPos hx.1 (evPos (by rw [ho]; exact hx.2) (evPos (by omega) (evPos (by rw [h64]; omega) ?_))))
    rw [telK]
    refine evIf (fun he => ?_) (fun he => ?_)
    · rw [if_pos he, Int.toNat_natCast, show (k : Int) + 1 = ((k + 1 : Nat) : Int) from rfl, w64n (by omega)]
      exact ih (k + 1) _ (by omega) (by rw [List.length_set]; exact ho) (rw64_set hr hx.1 (by rw [ho]; exact hx.2))
    · rw [if_neg he, if_neg (by simp)]
      exact Ev.now _
theorem tell_l0 (needs : Int) (c : List Int) (f t hi low : Int) (L : Nat) (hcl : c.length ≤ 1048576) (h0 : 0 ≤ f) (hft : f ≤ t) (ht : t ≤ 63) (hc : ∀ x ∈ c, 0 ≤ x ∧ x < (L : Int)) :
    ∀ (d j : Nat) (out : List (List Int)), j + d = c.length → out.length = L → rw64 out → Ev (fun q => impl_tell.l0 q out needs c (c.length : Int) j c f t hi low) (telC needs low (t - f + 1).toNat f.toNat (c.drop j) out) := by
  intro d
  induction d with
  | zero =>
    intro j out hj ho hr
    rw [List.drop_eq_nil_of_le (by omega), telC]
    exact Ev.step (fun q => by rw [impl_tell.l0]) (evNeg (by omega) (Ev.now _))
  | succ d ih =>
    intro j out hj ho hr
    have hlt : j < c.length := by omega
    have hcj := hc _ (List.getElem_mem hlt)
    refine Ev.step (fun q => by rw [impl_tell.l0]) (evPos (by omega) (evPos (by omega) (evPos (by omega) ?_)))
    rw [show rd c (j : Int) = c[j] from by simp [rd, List.getD, hlt]]
    have key := tell_l1 needs c (c.length : Int) j L c f t hi low c[j] ht hcj (telC needs low (t - f + 1).toNat f.toNat (c.drop (j + 1)))
      (fun out' ho' hr' => by
        rw [show (j : Int) + 1 = ((j + 1 : Nat) : Int) from rfl, w64n (by omega)]
        exact ih (j + 1) out' (by omega) ho' hr') (t - f + 1).toNat f.toNat out (by omega) ho hr
    rw [List.drop_eq_getElem_cons hlt, telC]
    rw [show ((f.toNat : Nat) : Int) = f from by omega] at key
    exact key
theorem tell_f (s : S28) (L : Nat) (hcl : s.f0.length ≤ 1048576) (h0 : 0 ≤ s.f1) (hft : s.f1 ≤ s.f2) (ht : s.f2 ≤ 63) (hc : ∀ x ∈ s.f0, 0 ≤ x ∧ x < (L : Int)) (out : List (List Int)) (ho : out.length = L) (hr : rw64 out) : Ev (fun q => impl_tell.f q out s.f0 s.f1 s.f2 s.f3 s.f4) (telI s out) := by
  unfold impl_tell.f telI needI2
  have key := fun needs => tell_l0 needs s.f0 s.f1 s.f2 s.f3 s.f4 L hcl h0 hft ht hc s.f0.length 0 out (by omega) ho hr
  simp only [List.drop_zero] at key
  refine evIf (fun hz => ?_) (fun hz => ?_)
  · rw [if_pos hz]
    exact Ev.step (fun q => by rw [impl_tell.j0]; rfl) (key s.f3)
  · rw [if_neg hz]
    exact Ev.step (fun q => by rw [impl_tell.j0]; rfl) (key (-1))

end Go.Proofs.Ythajjjpblkhmmaa.CL
