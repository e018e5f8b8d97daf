/- Functions that a law of this seat reaches: written by a program of this session (wip/xprint.py), and by hand. -/
import Derived.Test.YthajjjpblkhmmaaZCWx0
import Derived.Test.YthajjjpblkhmmaaZCWx3
namespace Go.Proofs.Ythajjjpblkhmmaa.CW
open Go.RowKit Go.Proofs.Ythajjjpblkhmmaa.B Go.Proofs.YthajjjpblkhmmaaW.PrintWords Go.Proofs.YthajjjpblkhmmaaW.PrintLast Go.Proofs.YthajjjpblkhmmaaW.PrintMore
attribute [local go_sem] max2_int min2_int max_two min_two max_three min_three max_four min_four   -- for this text's walks alone
set_option linter.unusedVariables false
set_option linter.unusedSimpArgs false

/-! ### impl_FrameOk: function 92 -/
mutual
def impl_FrameOk.j0 : Nat → Bool → Int → Int → Int → Int → List (S42) → Option (Bool)
  | 0, _, _, _, _, _, _ => none
  | k + 1, x46, x118000, x118001, x118002, x118003, x118004 => if x46 = true then (some false) else (impl_FrameOk.l0 k 0 x118004 (x118004.length : Int) 0 x118000 x118001 x118002 x118003 x118004)
def impl_FrameOk.l0 : Nat → Int → List (S42) → Int → Int → Int → Int → Int → Int → List (S42) → Option (Bool)
  | 0, _, _, _, _, _, _, _, _, _ => none
  | k + 1, x3, x48, x49, x50, x118000, x118001, x118002, x118003, x118004 => if x50 < x49 then (if 0 ≤ x50 then (if x50 < (x48.length : Int) then ((impl_within.f ((rd_T42 x48 x50).f0) 0 255).bind fun t128 => (if t128 = true then ((impl_within.f ((rd_T42 x48 x50).f1) 1 4).bind fun t129 => (if t129 = true then ((impl_within.f ((rd_T42 x48 x50).f2) 1 4).bind fun t130 => (if t130 = true then ((impl_within.f ((rd_T42 x48 x50).f3) 0 3).bind fun t131 => (impl_FrameOk.j2 k x3 x50 x48 x49 x50 (!t131) x118000 x118001 x118002 x118003 x118004 ((rd_T42 x48 x50).f0) ((rd_T42 x48 x50).f1) ((rd_T42 x48 x50).f2) ((rd_T42 x48 x50).f3))) else (impl_FrameOk.j2 k x3 x50 x48 x49 x50 true x118000 x118001 x118002 x118003 x118004 ((rd_T42 x48 x50).f0) ((rd_T42 x48 x50).f1) ((rd_T42 x48 x50).f2) ((rd_T42 x48 x50).f3)))) else (impl_FrameOk.j2 k x3 x50 x48 x49 x50 true x118000 x118001 x118002 x118003 x118004 ((rd_T42 x48 x50).f0) ((rd_T42 x48 x50).f1) ((rd_T42 x48 x50).f2) ((rd_T42 x48 x50).f3)))) else (impl_FrameOk.j2 k x3 x50 x48 x49 x50 true x118000 x118001 x118002 x118003 x118004 ((rd_T42 x48 x50).f0) ((rd_T42 x48 x50).f1) ((rd_T42 x48 x50).f2) ((rd_T42 x48 x50).f3)))) else (none)) else (none)) else (some (decide (x3 ≤ 10)))
def impl_FrameOk.j2 : Nat → Int → Int → List (S42) → Int → Int → Bool → Int → Int → Int → Int → List (S42) → Int → Int → Int → Int → Option (Bool)
  | 0, _, _, _, _, _, _, _, _, _, _, _, _, _, _, _ => none
  | k + 1, x3, x4, x48, x49, x50, x76, x118000, x118001, x118002, x118003, x118004, x128000, x128001, x128002, x128003 => if x76 = true then (some false) else (if 0 ≤ x4 then (if x4 ≤ (x118004.length : Int) then ((impl_FrameOk_1.f (x118004.take (x4 : Int).toNat) x128000 x128001 x128002 x128003).bind fun t136 => (if t136 = true then (some false) else (impl_FrameOk.l0 k (wrap64 (x3 + (wrap64 (x128001 * x128002)))) x48 x49 (wrap64 (x50 + 1)) x118000 x118001 x118002 x118003 x118004))) else (none)) else (none))
end
def impl_FrameOk.f (k : Nat) (a0_0 : Int) (a0_1 : Int) (a0_2 : Int) (a0_3 : Int) (l0_4 : List (S42)) : Option (Bool) := if a0_0 = 8 then ((impl_within.f a0_1 1 256).bind fun t118 => (if t118 = true then ((impl_within.f a0_2 1 256).bind fun t119 => (if t119 = true then (if (wrap64 (a0_1 * a0_2)) > 16384 then (impl_FrameOk.j0 k true a0_0 a0_1 a0_2 a0_3 l0_4) else ((impl_within.f a0_3 0 255).bind fun t120 => (if t120 = true then ((impl_within.f (l0_4.length : Int) 1 4).bind fun t121 => (impl_FrameOk.j0 k (!t121) a0_0 a0_1 a0_2 a0_3 l0_4)) else (impl_FrameOk.j0 k true a0_0 a0_1 a0_2 a0_3 l0_4)))) else (impl_FrameOk.j0 k true a0_0 a0_1 a0_2 a0_3 l0_4))) else (impl_FrameOk.j0 k true a0_0 a0_1 a0_2 a0_3 l0_4))) else (if a0_0 = 12 then ((impl_within.f a0_1 1 256).bind fun t122 => (if t122 = true then ((impl_within.f a0_2 1 256).bind fun t123 => (if t123 = true then (if (wrap64 (a0_1 * a0_2)) > 16384 then (impl_FrameOk.j0 k true a0_0 a0_1 a0_2 a0_3 l0_4) else ((impl_within.f a0_3 0 255).bind fun t124 => (if t124 = true then ((impl_within.f (l0_4.length : Int) 1 4).bind fun t125 => (impl_FrameOk.j0 k (!t125) a0_0 a0_1 a0_2 a0_3 l0_4)) else (impl_FrameOk.j0 k true a0_0 a0_1 a0_2 a0_3 l0_4)))) else (impl_FrameOk.j0 k true a0_0 a0_1 a0_2 a0_3 l0_4))) else (impl_FrameOk.j0 k true a0_0 a0_1 a0_2 a0_3 l0_4))) else (impl_FrameOk.j0 k true a0_0 a0_1 a0_2 a0_3 l0_4))
theorem impl_FrameOk.mono_l : ∀ k, (∀ y0 y1 y2 y3 y4 y5, LeO (impl_FrameOk.j0 k y0 y1 y2 y3 y4 y5) (impl_FrameOk.j0 (k + 1) y0 y1 y2 y3 y4 y5)) ∧ (∀ y0 y1 y2 y3 y4 y5 y6 y7 y8, LeO (impl_FrameOk.l0 k y0 y1 y2 y3 y4 y5 y6 y7 y8) (impl_FrameOk.l0 (k + 1) y0 y1 y2 y3 y4 y5 y6 y7 y8)) ∧ (∀ y0 y1 y2 y3 y4 y5 y6 y7 y8 y9 y10 y11 y12 y13 y14, LeO (impl_FrameOk.j2 k y0 y1 y2 y3 y4 y5 y6 y7 y8 y9 y10 y11 y12 y13 y14) (impl_FrameOk.j2 (k + 1) y0 y1 y2 y3 y4 y5 y6 y7 y8 y9 y10 y11 y12 y13 y14))
  | 0 => ⟨fun _ _ _ _ _ _ r h => by simp [impl_FrameOk.j0] at h, fun _ _ _ _ _ _ _ _ _ r h => by simp [impl_FrameOk.l0] at h, fun _ _ _ _ _ _ _ _ _ _ _ _ _ _ _ r h => by simp [impl_FrameOk.j2] at h⟩
  | k + 1 => by
    obtain ⟨ih0, ih1, ih2⟩ := impl_FrameOk.mono_l k
    refine ⟨?_, ?_, ?_⟩
    · intro y0 y1 y2 y3 y4 y5
      unfold impl_FrameOk.j0
      repeat' first
      | (with_reducible exact ih0 _ _ _ _ _ _)
      | (with_reducible exact ih1 _ _ _ _ _ _ _ _ _)
      | (with_reducible exact ih2 _ _ _ _ _ _ _ _ _ _ _ _ _ _ _)
      | (with_reducible exact LeO.refl _)
      | (with_reducible exact LeO.none _)
      | (with_reducible refine LeO.ite ?_ ?_)
      | (with_reducible refine LeO.bind ?_ (fun _ => ?_))
      | exact ih0 _ _ _ _ _ _
      | exact ih1 _ _ _ _ _ _ _ _ _
      | exact ih2 _ _ _ _ _ _ _ _ _ _ _ _ _ _ _
      | exact LeO.none _
      | refine LeO.ite ?_ ?_
      | refine LeO.bind ?_ (fun _ => ?_)
    · intro y0 y1 y2 y3 y4 y5 y6 y7 y8
      unfold impl_FrameOk.l0
      repeat' first
      | (with_reducible exact ih0 _ _ _ _ _ _)
      | (with_reducible exact ih1 _ _ _ _ _ _ _ _ _)
      | (with_reducible exact ih2 _ _ _ _ _ _ _ _ _ _ _ _ _ _ _)
      | (with_reducible exact LeO.refl _)
      | (with_reducible exact LeO.none _)
      | (with_reducible refine LeO.ite ?_ ?_)
      | (with_reducible refine LeO.bind ?_ (fun _ => ?_))
      | exact ih0 _ _ _ _ _ _
      | exact ih1 _ _ _ _ _ _ _ _ _
      | exact ih2 _ _ _ _ _ _ _ _ _ _ _ _ _ _ _
      | exact LeO.none _
      | refine LeO.ite ?_ ?_
      | refine LeO.bind ?_ (fun _ => ?_)
    · intro y0 y1 y2 y3 y4 y5 y6 y7 y8 y9 y10 y11 y12 y13 y14
      unfold impl_FrameOk.j2
      repeat' first
      | (with_reducible exact ih0 _ _ _ _ _ _)
      | (with_reducible exact ih1 _ _ _ _ _ _ _ _ _)
      | (with_reducible exact ih2 _ _ _ _ _ _ _ _ _ _ _ _ _ _ _)
      | (with_reducible exact LeO.refl _)
      | (with_reducible exact LeO.none _)
      | (with_reducible refine LeO.ite ?_ ?_)
      | (with_reducible refine LeO.bind ?_ (fun _ => ?_))
      | exact ih0 _ _ _ _ _ _
      | exact ih1 _ _ _ _ _ _ _ _ _
      | exact ih2 _ _ _ _ _ _ _ _ _ _ _ _ _ _ _
      | exact LeO.none _
      | refine LeO.ite ?_ ?_
      | refine LeO.bind ?_ (fun _ => ?_)
theorem impl_FrameOk.mono : ∀ a0 a1 a2 a3 a4 k, LeO (impl_FrameOk.f k a0 a1 a2 a3 a4) (impl_FrameOk.f (k + 1) a0 a1 a2 a3 a4) := by
  intro a0 a1 a2 a3 a4 k
  obtain ⟨ih0, ih1, ih2⟩ := impl_FrameOk.mono_l k
  unfold impl_FrameOk.f
  repeat' first
      | (with_reducible exact ih0 _ _ _ _ _ _)
      | (with_reducible exact ih1 _ _ _ _ _ _ _ _ _)
      | (with_reducible exact ih2 _ _ _ _ _ _ _ _ _ _ _ _ _ _ _)
      | (with_reducible exact LeO.refl _)
      | (with_reducible exact LeO.none _)
      | (with_reducible refine LeO.ite ?_ ?_)
      | (with_reducible refine LeO.bind ?_ (fun _ => ?_))
      | exact ih0 _ _ _ _ _ _
      | exact ih1 _ _ _ _ _ _ _ _ _
      | exact ih2 _ _ _ _ _ _ _ _ _ _ _ _ _ _ _
      | exact LeO.none _
      | refine LeO.ite ?_ ?_
      | refine LeO.bind ?_ (fun _ => ?_)
set_option maxHeartbeats 8000000 in
set_option maxRecDepth 100000 in
theorem impl_FrameOk.calls (k : Nat) (a0_0 : Int) (a0_1 : Int) (a0_2 : Int) (a0_3 : Int) (A0_4 : Option Addr) (c0_4 : Nat) (l0_4 : List (S42)) (r : Bool) (w : World) (hr0_4 : Kd.C k42 w A0_4 l0_4.length l0_4) (hc0_4 : l0_4.length ≤ c0_4) (h : impl_FrameOk.f k a0_0 a0_1 a0_2 a0_3 l0_4 = some r) :
    Calls Try.prog 92 #[.agg #[.int .i64 a0_0, .int .i64 a0_1, .int .i64 a0_2, .int .i64 a0_3, .slice A0_4 l0_4.length c0_4]] w fun e w' => e = .returned (.bool r) ∧ Below w.heap.size w w' := by
  have hu45 := Try.underlying45
  have hu42 := Try.underlying42
  have hmf : ∀ (fn : Fn) (first cap : Array Value) (w : World), (Instr.makeFunc fn first cap).run Try.prog w = .ok (.func fn first cap) w := fun _ _ _ _ => rfl
  have HR0_4 := Aside0.mk hr0_4
  have HC0_4 := Aside0.mk hc0_4
  clear hr0_4 hc0_4
  have HB := Aside0.mk (Below.refl w.heap.size w)
  have H : (if a0_0 = 8 then ((impl_within.f a0_1 1 256).bind fun t118 => (if t118 = true then ((impl_within.f a0_2 1 256).bind fun t119 => (if t119 = true then (if (wrap64 (a0_1 * a0_2)) > 16384 then (impl_FrameOk.j0 k true a0_0 a0_1 a0_2 a0_3 l0_4) else ((impl_within.f a0_3 0 255).bind fun t120 => (if t120 = true then ((impl_within.f (l0_4.length : Int) 1 4).bind fun t121 => (impl_FrameOk.j0 k (!t121) a0_0 a0_1 a0_2 a0_3 l0_4)) else (impl_FrameOk.j0 k true a0_0 a0_1 a0_2 a0_3 l0_4)))) else (impl_FrameOk.j0 k true a0_0 a0_1 a0_2 a0_3 l0_4))) else (impl_FrameOk.j0 k true a0_0 a0_1 a0_2 a0_3 l0_4))) else (if a0_0 = 12 then ((impl_within.f a0_1 1 256).bind fun t122 => (if t122 = true then ((impl_within.f a0_2 1 256).bind fun t123 => (if t123 = true then (if (wrap64 (a0_1 * a0_2)) > 16384 then (impl_FrameOk.j0 k true a0_0 a0_1 a0_2 a0_3 l0_4) else ((impl_within.f a0_3 0 255).bind fun t124 => (if t124 = true then ((impl_within.f (l0_4.length : Int) 1 4).bind fun t125 => (impl_FrameOk.j0 k (!t125) a0_0 a0_1 a0_2 a0_3 l0_4)) else (impl_FrameOk.j0 k true a0_0 a0_1 a0_2 a0_3 l0_4)))) else (impl_FrameOk.j0 k true a0_0 a0_1 a0_2 a0_3 l0_4))) else (impl_FrameOk.j0 k true a0_0 a0_1 a0_2 a0_3 l0_4))) else (impl_FrameOk.j0 k true a0_0 a0_1 a0_2 a0_3 l0_4))) = some r := h
  clear h
  have HC2 := Aside0.mk H
  clear H
  go_enter Try.func92, Try.ntmps92
  go_upto_region 1 with (first | ((with_reducible refine gate_dst (N := 1) rfl ?_); (try (refine gate_guard (by rfl) ?_; dsimp only)); refine box_event ?hg (N := 1) ?hd (cs := #[.int .i64 a0_0, .int .i64 a0_1, .int .i64 a0_2, .int .i64 a0_3, .slice A0_4 l0_4.length c0_4]) (t := 45) ?hr ?_; (case hd => rfl); (case hg => rfl); (case hr => first | (go_simp; done) | (go_simp; rfl)); intro gb117 hg w3 hbox hb; have n0_ := Aside0.mk (below_step (by repeat (first | (with_reducible first | exact HB.out | apply below_alloc | apply pw_below_drewN | apply below_drew1) | exact HB.out)) hb); have n1_ := Aside0.mk (hbox); have n2_ := Aside0.mk ((by rw [hg]; exact (below_size (by repeat (first | (with_reducible first | exact HB.out | apply below_alloc | apply pw_below_drewN | apply below_drew1) | exact HB.out))) : w.heap.size ≤ gb117)); have n3_ := Aside0.mk ((by rw [hg]; exact (below_size (by repeat (first | (with_reducible first | exact HB.out | apply below_alloc | apply pw_below_drewN | apply below_drew1) | exact HB.out))) : w.heap.size ≤ gb117)); clear HB; have HB := n0_; have BK117 := n1_; have GW117 := n2_; have GE117 := n3_; clear n0_ n1_ n2_ n3_; clear hb hbox hg))
  (try simp only [Act.put, List.setIfInBounds_toArray, List.set_cons_zero, List.set_cons_succ])
  go_cut [46] (fun v46 wc => ∃ (kq : Nat) (x46_1 : Bool), v46 = .bool x46_1 ∧ Aside0 (impl_FrameOk.j0 kq x46_1 a0_0 a0_1 a0_2 a0_3 l0_4 = some r) ∧ Aside0 (kq ≤ k) ∧ Aside0 (wc.heap[gb117]? = some (.cells #[.int .i64 a0_0, .int .i64 a0_1, .int .i64 a0_2, .int .i64 a0_3, (.slice A0_4 l0_4.length c0_4)] 45 (0, 0))) ∧ Aside0 (Below w.heap.size w wc))
  case first =>
    have H := HC2.out
    clear HC2
    by_cases c4 : a0_0 = 8
    · rw [if_pos c4] at H
      have c4b0 : (a0_0 == 8) = true := beq_iff_eq.mpr c4
      have c4b1 : (a0_0 != 8) = false := bne_eq_false_iff_eq.mpr c4
      clear c4
      (first | rw [c4b0] | (simp only [i64_w, i32_w]; rw [c4b0]) | skip)
      replace H := Option.bind_eq_some_iff.mp H
      obtain ⟨t118, A50, H⟩ := H
      replace H : (if t118 = true then ((impl_within.f a0_2 1 256).bind fun t119 => (if t119 = true then (if (wrap64 (a0_1 * a0_2)) > 16384 then (impl_FrameOk.j0 k true a0_0 a0_1 a0_2 a0_3 l0_4) else ((impl_within.f a0_3 0 255).bind fun t120 => (if t120 = true then ((impl_within.f (l0_4.length : Int) 1 4).bind fun t121 => (impl_FrameOk.j0 k (!t121) a0_0 a0_1 a0_2 a0_3 l0_4)) else (impl_FrameOk.j0 k true a0_0 a0_1 a0_2 a0_3 l0_4)))) else (impl_FrameOk.j0 k true a0_0 a0_1 a0_2 a0_3 l0_4))) else (impl_FrameOk.j0 k true a0_0 a0_1 a0_2 a0_3 l0_4)) = some r := H
      have A5 := Aside0.mk A50
      clear A50
      by_cases c6 : t118 = true
      · subst c6
        have H1 : ((impl_within.f a0_2 1 256).bind fun t119 => (if t119 = true then (if (wrap64 (a0_1 * a0_2)) > 16384 then (impl_FrameOk.j0 k true a0_0 a0_1 a0_2 a0_3 l0_4) else ((impl_within.f a0_3 0 255).bind fun t120 => (if t120 = true then ((impl_within.f (l0_4.length : Int) 1 4).bind fun t121 => (impl_FrameOk.j0 k (!t121) a0_0 a0_1 a0_2 a0_3 l0_4)) else (impl_FrameOk.j0 k true a0_0 a0_1 a0_2 a0_3 l0_4)))) else (impl_FrameOk.j0 k true a0_0 a0_1 a0_2 a0_3 l0_4))) = some r := by rw [if_pos rfl] at H; exact H
        clear H
        have H := H1
        clear H1
        replace H := Option.bind_eq_some_iff.mp H
        obtain ⟨t119, A70, H⟩ := H
        replace H : (if t119 = true then (if (wrap64 (a0_1 * a0_2)) > 16384 then (impl_FrameOk.j0 k true a0_0 a0_1 a0_2 a0_3 l0_4) else ((impl_within.f a0_3 0 255).bind fun t120 => (if t120 = true then ((impl_within.f (l0_4.length : Int) 1 4).bind fun t121 => (impl_FrameOk.j0 k (!t121) a0_0 a0_1 a0_2 a0_3 l0_4)) else (impl_FrameOk.j0 k true a0_0 a0_1 a0_2 a0_3 l0_4)))) else (impl_FrameOk.j0 k true a0_0 a0_1 a0_2 a0_3 l0_4)) = some r := H
        have A7 := Aside0.mk A70
        clear A70
        by_cases c8 : t119 = true
        · subst c8
          have H1 : (if (wrap64 (a0_1 * a0_2)) > 16384 then (impl_FrameOk.j0 k true a0_0 a0_1 a0_2 a0_3 l0_4) else ((impl_within.f a0_3 0 255).bind fun t120 => (if t120 = true then ((impl_within.f (l0_4.length : Int) 1 4).bind fun t121 => (impl_FrameOk.j0 k (!t121) a0_0 a0_1 a0_2 a0_3 l0_4)) else (impl_FrameOk.j0 k true a0_0 a0_1 a0_2 a0_3 l0_4)))) = some r := by rw [if_pos rfl] at H; exact H
          clear H
          have H := H1
          clear H1
          by_cases c9 : (wrap64 (a0_1 * a0_2)) > 16384
          · rw [if_pos c9] at H
            have c9b0 : decide (16384 < (wrap64 (a0_1 * a0_2))) = true := decide_eq_true c9
            clear c9
            have H' := Aside0.mk H
            clear H
            have hcz10_0 : w3.cell? ⟨gb117, 0, none⟩ = some (.int .i64 a0_0) := (blk_cell BK117.out 0).trans rfl
            have hcz10_1 : w3.cell? ⟨gb117, 1, none⟩ = some (.int .i64 a0_1) := (blk_cell BK117.out 1).trans rfl
            have hcz10_2 : w3.cell? ⟨gb117, 2, none⟩ = some (.int .i64 a0_2) := (blk_cell BK117.out 2).trans rfl
            have hcz10_3 : w3.cell? ⟨gb117, 3, none⟩ = some (.int .i64 a0_3) := (blk_cell BK117.out 3).trans rfl
            have hcz10_4 : w3.cell? ⟨gb117, 4, none⟩ = some (.slice A0_4 l0_4.length c0_4) := (blk_cell BK117.out 4).trans rfl
            have hfz10_0 := blk_frozen BK117.out 0
            have hfz10_1 := blk_frozen BK117.out 1
            have hfz10_2 := blk_frozen BK117.out 2
            have hfz10_3 := blk_frozen BK117.out 3
            have hfz10_4 := blk_frozen BK117.out 4
            go_wp2_with (first | (go_at_call 101; (with_reducible refine (impl_within.calls a0_1 1 256 true _ A5.out).mono ?_); rintro e w' ⟨rfl, ⟨nd, rfl⟩⟩) | (go_at_call 101; (with_reducible refine (impl_within.calls a0_2 1 256 true _ A7.out).mono ?_); rintro e w' ⟨rfl, ⟨nd, rfl⟩⟩))
            go_meet
            case rel => exact ⟨_, (true), (by first | rfl | (simp; done) | (simp [*]; done)), H', ⟨by first | omega | exact Nat.le_refl _⟩, ⟨by (with_reducible repeat (first | refine blk_drewN ?_ _ | refine blk_drew ?_ | refine blk_alloc ?_ _)); exact BK117.out⟩, ⟨by repeat (first | (with_reducible first | exact HB.out | apply below_alloc | apply pw_below_drewN | apply below_drew1 | refine below_set ?_ GE117.out) | exact HB.out)⟩⟩
          · rw [if_neg c9] at H
            have c9b0 : decide (16384 < (wrap64 (a0_1 * a0_2))) = false := decide_eq_false c9
            clear c9
            replace H := Option.bind_eq_some_iff.mp H
            obtain ⟨t120, A110, H⟩ := H
            replace H : (if t120 = true then ((impl_within.f (l0_4.length : Int) 1 4).bind fun t121 => (impl_FrameOk.j0 k (!t121) a0_0 a0_1 a0_2 a0_3 l0_4)) else (impl_FrameOk.j0 k true a0_0 a0_1 a0_2 a0_3 l0_4)) = some r := H
            have A11 := Aside0.mk A110
            clear A110
            by_cases c12 : t120 = true
            · subst c12
              have H1 : ((impl_within.f (l0_4.length : Int) 1 4).bind fun t121 => (impl_FrameOk.j0 k (!t121) a0_0 a0_1 a0_2 a0_3 l0_4)) = some r := by rw [if_pos rfl] at H; exact H
              clear H
              have H := H1
              clear H1
              replace H := Option.bind_eq_some_iff.mp H
              obtain ⟨t121, A130, H⟩ := H
              replace H : (impl_FrameOk.j0 k (!t121) a0_0 a0_1 a0_2 a0_3 l0_4) = some r := H
              have A13 := Aside0.mk A130
              clear A130
              have H' := Aside0.mk H
              clear H
              have hcz14_0 : w3.cell? ⟨gb117, 0, none⟩ = some (.int .i64 a0_0) := (blk_cell BK117.out 0).trans rfl
              have hcz14_1 : w3.cell? ⟨gb117, 1, none⟩ = some (.int .i64 a0_1) := (blk_cell BK117.out 1).trans rfl
              have hcz14_2 : w3.cell? ⟨gb117, 2, none⟩ = some (.int .i64 a0_2) := (blk_cell BK117.out 2).trans rfl
              have hcz14_3 : w3.cell? ⟨gb117, 3, none⟩ = some (.int .i64 a0_3) := (blk_cell BK117.out 3).trans rfl
              have hcz14_4 : w3.cell? ⟨gb117, 4, none⟩ = some (.slice A0_4 l0_4.length c0_4) := (blk_cell BK117.out 4).trans rfl
              have hfz14_0 := blk_frozen BK117.out 0
              have hfz14_1 := blk_frozen BK117.out 1
              have hfz14_2 := blk_frozen BK117.out 2
              have hfz14_3 := blk_frozen BK117.out 3
              have hfz14_4 := blk_frozen BK117.out 4
              go_wp2_with (first | (go_at_call 101; (with_reducible refine (impl_within.calls a0_1 1 256 true _ A5.out).mono ?_); rintro e w' ⟨rfl, ⟨nd, rfl⟩⟩) | (go_at_call 101; (with_reducible refine (impl_within.calls a0_2 1 256 true _ A7.out).mono ?_); rintro e w' ⟨rfl, ⟨nd, rfl⟩⟩) | (go_at_call 101; (with_reducible refine (impl_within.calls a0_3 0 255 true _ A11.out).mono ?_); rintro e w' ⟨rfl, ⟨nd, rfl⟩⟩) | (go_at_call 101; (with_reducible refine (impl_within.calls (l0_4.length : Int) 1 4 t121 _ A13.out).mono ?_); rintro e w' ⟨rfl, ⟨nd, rfl⟩⟩))
              go_meet
              case rel => exact ⟨_, (!t121), (by first | rfl | (simp; done) | (simp [*]; done)), H', ⟨by first | omega | exact Nat.le_refl _⟩, ⟨by (with_reducible repeat (first | refine blk_drewN ?_ _ | refine blk_drew ?_ | refine blk_alloc ?_ _)); exact BK117.out⟩, ⟨by repeat (first | (with_reducible first | exact HB.out | apply below_alloc | apply pw_below_drewN | apply below_drew1 | refine below_set ?_ GE117.out) | exact HB.out)⟩⟩
            · replace c12 := Bool.eq_false_iff.mpr c12
              subst c12
              have H1 : (impl_FrameOk.j0 k true a0_0 a0_1 a0_2 a0_3 l0_4) = some r := by rw [if_neg (show ¬ (false = true) by decide)] at H; exact H
              clear H
              have H := H1
              clear H1
              have H' := Aside0.mk H
              clear H
              have hcz15_0 : w3.cell? ⟨gb117, 0, none⟩ = some (.int .i64 a0_0) := (blk_cell BK117.out 0).trans rfl
              have hcz15_1 : w3.cell? ⟨gb117, 1, none⟩ = some (.int .i64 a0_1) := (blk_cell BK117.out 1).trans rfl
              have hcz15_2 : w3.cell? ⟨gb117, 2, none⟩ = some (.int .i64 a0_2) := (blk_cell BK117.out 2).trans rfl
              have hcz15_3 : w3.cell? ⟨gb117, 3, none⟩ = some (.int .i64 a0_3) := (blk_cell BK117.out 3).trans rfl
              have hcz15_4 : w3.cell? ⟨gb117, 4, none⟩ = some (.slice A0_4 l0_4.length c0_4) := (blk_cell BK117.out 4).trans rfl
              have hfz15_0 := blk_frozen BK117.out 0
              have hfz15_1 := blk_frozen BK117.out 1
              have hfz15_2 := blk_frozen BK117.out 2
              have hfz15_3 := blk_frozen BK117.out 3
              have hfz15_4 := blk_frozen BK117.out 4
              go_wp2_with (first | (go_at_call 101; (with_reducible refine (impl_within.calls a0_1 1 256 true _ A5.out).mono ?_); rintro e w' ⟨rfl, ⟨nd, rfl⟩⟩) | (go_at_call 101; (with_reducible refine (impl_within.calls a0_2 1 256 true _ A7.out).mono ?_); rintro e w' ⟨rfl, ⟨nd, rfl⟩⟩) | (go_at_call 101; (with_reducible refine (impl_within.calls a0_3 0 255 false _ A11.out).mono ?_); rintro e w' ⟨rfl, ⟨nd, rfl⟩⟩))
              go_meet
              case rel => exact ⟨_, (true), (by first | rfl | (simp; done) | (simp [*]; done)), H', ⟨by first | omega | exact Nat.le_refl _⟩, ⟨by (with_reducible repeat (first | refine blk_drewN ?_ _ | refine blk_drew ?_ | refine blk_alloc ?_ _)); exact BK117.out⟩, ⟨by repeat (first | (with_reducible first | exact HB.out | apply below_alloc | apply pw_below_drewN | apply below_drew1 | refine below_set ?_ GE117.out) | exact HB.out)⟩⟩
        · replace c8 := Bool.eq_false_iff.mpr c8
          subst c8
          have H1 : (impl_FrameOk.j0 k true a0_0 a0_1 a0_2 a0_3 l0_4) = some r := by rw [if_neg (show ¬ (false = true) by decide)] at H; exact H
          clear H
          have H := H1
          clear H1
          have H' := Aside0.mk H
          clear H
          have hcz16_0 : w3.cell? ⟨gb117, 0, none⟩ = some (.int .i64 a0_0) := (blk_cell BK117.out 0).trans rfl
          have hcz16_1 : w3.cell? ⟨gb117, 1, none⟩ = some (.int .i64 a0_1) := (blk_cell BK117.out 1).trans rfl
          have hcz16_2 : w3.cell? ⟨gb117, 2, none⟩ = some (.int .i64 a0_2) := (blk_cell BK117.out 2).trans rfl
          have hcz16_3 : w3.cell? ⟨gb117, 3, none⟩ = some (.int .i64 a0_3) := (blk_cell BK117.out 3).trans rfl
          have hcz16_4 : w3.cell? ⟨gb117, 4, none⟩ = some (.slice A0_4 l0_4.length c0_4) := (blk_cell BK117.out 4).trans rfl
          have hfz16_0 := blk_frozen BK117.out 0
          have hfz16_1 := blk_frozen BK117.out 1
          have hfz16_2 := blk_frozen BK117.out 2
          have hfz16_3 := blk_frozen BK117.out 3
          have hfz16_4 := blk_frozen BK117.out 4
          go_wp2_with (first | (go_at_call 101; (with_reducible refine (impl_within.calls a0_1 1 256 true _ A5.out).mono ?_); rintro e w' ⟨rfl, ⟨nd, rfl⟩⟩) | (go_at_call 101; (with_reducible refine (impl_within.calls a0_2 1 256 false _ A7.out).mono ?_); rintro e w' ⟨rfl, ⟨nd, rfl⟩⟩))
          go_meet
          case rel => exact ⟨_, (true), (by first | rfl | (simp; done) | (simp [*]; done)), H', ⟨by first | omega | exact Nat.le_refl _⟩, ⟨by (with_reducible repeat (first | refine blk_drewN ?_ _ | refine blk_drew ?_ | refine blk_alloc ?_ _)); exact BK117.out⟩, ⟨by repeat (first | (with_reducible first | exact HB.out | apply below_alloc | apply pw_below_drewN | apply below_drew1 | refine below_set ?_ GE117.out) | exact HB.out)⟩⟩
      · replace c6 := Bool.eq_false_iff.mpr c6
        subst c6
        have H1 : (impl_FrameOk.j0 k true a0_0 a0_1 a0_2 a0_3 l0_4) = some r := by rw [if_neg (show ¬ (false = true) by decide)] at H; exact H
        clear H
        have H := H1
        clear H1
        have H' := Aside0.mk H
        clear H
        have hcz17_0 : w3.cell? ⟨gb117, 0, none⟩ = some (.int .i64 a0_0) := (blk_cell BK117.out 0).trans rfl
        have hcz17_1 : w3.cell? ⟨gb117, 1, none⟩ = some (.int .i64 a0_1) := (blk_cell BK117.out 1).trans rfl
        have hcz17_2 : w3.cell? ⟨gb117, 2, none⟩ = some (.int .i64 a0_2) := (blk_cell BK117.out 2).trans rfl
        have hcz17_3 : w3.cell? ⟨gb117, 3, none⟩ = some (.int .i64 a0_3) := (blk_cell BK117.out 3).trans rfl
        have hcz17_4 : w3.cell? ⟨gb117, 4, none⟩ = some (.slice A0_4 l0_4.length c0_4) := (blk_cell BK117.out 4).trans rfl
        have hfz17_0 := blk_frozen BK117.out 0
        have hfz17_1 := blk_frozen BK117.out 1
        have hfz17_2 := blk_frozen BK117.out 2
        have hfz17_3 := blk_frozen BK117.out 3
        have hfz17_4 := blk_frozen BK117.out 4
        go_wp2_with (first | (go_at_call 101; (with_reducible refine (impl_within.calls a0_1 1 256 false _ A5.out).mono ?_); rintro e w' ⟨rfl, ⟨nd, rfl⟩⟩))
        go_meet
        case rel => exact ⟨_, (true), (by first | rfl | (simp; done) | (simp [*]; done)), H', ⟨by first | omega | exact Nat.le_refl _⟩, ⟨by (with_reducible repeat (first | refine blk_drewN ?_ _ | refine blk_drew ?_ | refine blk_alloc ?_ _)); exact BK117.out⟩, ⟨by repeat (first | (with_reducible first | exact HB.out | apply below_alloc | apply pw_below_drewN | apply below_drew1 | refine below_set ?_ GE117.out) | exact HB.out)⟩⟩
    · rw [if_neg c4] at H
      have c4b0 : (a0_0 == 8) = false := beq_eq_false_iff_ne.mpr c4
      have c4b1 : (a0_0 != 8) = true := bne_iff_ne.mpr c4
      (first | rw [c4b0] | (simp only [i64_w, i32_w]; rw [c4b0]) | skip)
      by_cases c18 : a0_0 = 12
      · rw [if_pos c18] at H
        have c18b0 : (a0_0 == 12) = true := beq_iff_eq.mpr c18
        have c18b1 : (a0_0 != 12) = false := bne_eq_false_iff_eq.mpr c18
        clear c18
        replace H := Option.bind_eq_some_iff.mp H
        obtain ⟨t122, A190, H⟩ := H
        replace H : (if t122 = true then ((impl_within.f a0_2 1 256).bind fun t123 => (if t123 = true then (if (wrap64 (a0_1 * a0_2)) > 16384 then (impl_FrameOk.j0 k true a0_0 a0_1 a0_2 a0_3 l0_4) else ((impl_within.f a0_3 0 255).bind fun t124 => (if t124 = true then ((impl_within.f (l0_4.length : Int) 1 4).bind fun t125 => (impl_FrameOk.j0 k (!t125) a0_0 a0_1 a0_2 a0_3 l0_4)) else (impl_FrameOk.j0 k true a0_0 a0_1 a0_2 a0_3 l0_4)))) else (impl_FrameOk.j0 k true a0_0 a0_1 a0_2 a0_3 l0_4))) else (impl_FrameOk.j0 k true a0_0 a0_1 a0_2 a0_3 l0_4)) = some r := H
        have A19 := Aside0.mk A190
        clear A190
        by_cases c20 : t122 = true
        · subst c20
          have H1 : ((impl_within.f a0_2 1 256).bind fun t123 => (if t123 = true then (if (wrap64 (a0_1 * a0_2)) > 16384 then (impl_FrameOk.j0 k true a0_0 a0_1 a0_2 a0_3 l0_4) else ((impl_within.f a0_3 0 255).bind fun t124 => (if t124 = true then ((impl_within.f (l0_4.length : Int) 1 4).bind fun t125 => (impl_FrameOk.j0 k (!t125) a0_0 a0_1 a0_2 a0_3 l0_4)) else (impl_FrameOk.j0 k true a0_0 a0_1 a0_2 a0_3 l0_4)))) else (impl_FrameOk.j0 k true a0_0 a0_1 a0_2 a0_3 l0_4))) = some r := by rw [if_pos rfl] at H; exact H
          clear H
          have H := H1
          clear H1
          replace H := Option.bind_eq_some_iff.mp H
          obtain ⟨t123, A210, H⟩ := H
          replace H : (if t123 = true then (if (wrap64 (a0_1 * a0_2)) > 16384 then (impl_FrameOk.j0 k true a0_0 a0_1 a0_2 a0_3 l0_4) else ((impl_within.f a0_3 0 255).bind fun t124 => (if t124 = true then ((impl_within.f (l0_4.length : Int) 1 4).bind fun t125 => (impl_FrameOk.j0 k (!t125) a0_0 a0_1 a0_2 a0_3 l0_4)) else (impl_FrameOk.j0 k true a0_0 a0_1 a0_2 a0_3 l0_4)))) else (impl_FrameOk.j0 k true a0_0 a0_1 a0_2 a0_3 l0_4)) = some r := H
          have A21 := Aside0.mk A210
          clear A210
          by_cases c22 : t123 = true
          · subst c22
            have H1 : (if (wrap64 (a0_1 * a0_2)) > 16384 then (impl_FrameOk.j0 k true a0_0 a0_1 a0_2 a0_3 l0_4) else ((impl_within.f a0_3 0 255).bind fun t124 => (if t124 = true then ((impl_within.f (l0_4.length : Int) 1 4).bind fun t125 => (impl_FrameOk.j0 k (!t125) a0_0 a0_1 a0_2 a0_3 l0_4)) else (impl_FrameOk.j0 k true a0_0 a0_1 a0_2 a0_3 l0_4)))) = some r := by rw [if_pos rfl] at H; exact H
            clear H
            have H := H1
            clear H1
            by_cases c23 : (wrap64 (a0_1 * a0_2)) > 16384
            · rw [if_pos c23] at H
              have c23b0 : decide (16384 < (wrap64 (a0_1 * a0_2))) = true := decide_eq_true c23
              clear c23
              have H' := Aside0.mk H
              clear H
              have hcz24_0 : w3.cell? ⟨gb117, 0, none⟩ = some (.int .i64 a0_0) := (blk_cell BK117.out 0).trans rfl
              have hcz24_1 : w3.cell? ⟨gb117, 1, none⟩ = some (.int .i64 a0_1) := (blk_cell BK117.out 1).trans rfl
              have hcz24_2 : w3.cell? ⟨gb117, 2, none⟩ = some (.int .i64 a0_2) := (blk_cell BK117.out 2).trans rfl
              have hcz24_3 : w3.cell? ⟨gb117, 3, none⟩ = some (.int .i64 a0_3) := (blk_cell BK117.out 3).trans rfl
              have hcz24_4 : w3.cell? ⟨gb117, 4, none⟩ = some (.slice A0_4 l0_4.length c0_4) := (blk_cell BK117.out 4).trans rfl
              have hfz24_0 := blk_frozen BK117.out 0
              have hfz24_1 := blk_frozen BK117.out 1
              have hfz24_2 := blk_frozen BK117.out 2
              have hfz24_3 := blk_frozen BK117.out 3
              have hfz24_4 := blk_frozen BK117.out 4
              go_wp2_with (first | (go_at_call 101; (with_reducible refine (impl_within.calls a0_1 1 256 true _ A19.out).mono ?_); rintro e w' ⟨rfl, ⟨nd, rfl⟩⟩) | (go_at_call 101; (with_reducible refine (impl_within.calls a0_2 1 256 true _ A21.out).mono ?_); rintro e w' ⟨rfl, ⟨nd, rfl⟩⟩))
              go_meet
              case rel => exact ⟨_, (true), (by first | rfl | (simp; done) | (simp [*]; done)), H', ⟨by first | omega | exact Nat.le_refl _⟩, ⟨by (with_reducible repeat (first | refine blk_drewN ?_ _ | refine blk_drew ?_ | refine blk_alloc ?_ _)); exact BK117.out⟩, ⟨by repeat (first | (with_reducible first | exact HB.out | apply below_alloc | apply pw_below_drewN | apply below_drew1 | refine below_set ?_ GE117.out) | exact HB.out)⟩⟩
            · rw [if_neg c23] at H
              have c23b0 : decide (16384 < (wrap64 (a0_1 * a0_2))) = false := decide_eq_false c23
              clear c23
              replace H := Option.bind_eq_some_iff.mp H
              obtain ⟨t124, A250, H⟩ := H
              replace H : (if t124 = true then ((impl_within.f (l0_4.length : Int) 1 4).bind fun t125 => (impl_FrameOk.j0 k (!t125) a0_0 a0_1 a0_2 a0_3 l0_4)) else (impl_FrameOk.j0 k true a0_0 a0_1 a0_2 a0_3 l0_4)) = some r := H
              have A25 := Aside0.mk A250
              clear A250
              by_cases c26 : t124 = true
              · subst c26
                have H1 : ((impl_within.f (l0_4.length : Int) 1 4).bind fun t125 => (impl_FrameOk.j0 k (!t125) a0_0 a0_1 a0_2 a0_3 l0_4)) = some r := by rw [if_pos rfl] at H; exact H
                clear H
                have H := H1
                clear H1
                replace H := Option.bind_eq_some_iff.mp H
                obtain ⟨t125, A270, H⟩ := H
                replace H : (impl_FrameOk.j0 k (!t125) a0_0 a0_1 a0_2 a0_3 l0_4) = some r := H
                have A27 := Aside0.mk A270
                clear A270
                have H' := Aside0.mk H
                clear H
                have hcz28_0 : w3.cell? ⟨gb117, 0, none⟩ = some (.int .i64 a0_0) := (blk_cell BK117.out 0).trans rfl
                have hcz28_1 : w3.cell? ⟨gb117, 1, none⟩ = some (.int .i64 a0_1) := (blk_cell BK117.out 1).trans rfl
                have hcz28_2 : w3.cell? ⟨gb117, 2, none⟩ = some (.int .i64 a0_2) := (blk_cell BK117.out 2).trans rfl
                have hcz28_3 : w3.cell? ⟨gb117, 3, none⟩ = some (.int .i64 a0_3) := (blk_cell BK117.out 3).trans rfl
                have hcz28_4 : w3.cell? ⟨gb117, 4, none⟩ = some (.slice A0_4 l0_4.length c0_4) := (blk_cell BK117.out 4).trans rfl
                have hfz28_0 := blk_frozen BK117.out 0
                have hfz28_1 := blk_frozen BK117.out 1
                have hfz28_2 := blk_frozen BK117.out 2
                have hfz28_3 := blk_frozen BK117.out 3
                have hfz28_4 := blk_frozen BK117.out 4
                go_wp2_with (first | (go_at_call 101; (with_reducible refine (impl_within.calls a0_1 1 256 true _ A19.out).mono ?_); rintro e w' ⟨rfl, ⟨nd, rfl⟩⟩) | (go_at_call 101; (with_reducible refine (impl_within.calls a0_2 1 256 true _ A21.out).mono ?_); rintro e w' ⟨rfl, ⟨nd, rfl⟩⟩) | (go_at_call 101; (with_reducible refine (impl_within.calls a0_3 0 255 true _ A25.out).mono ?_); rintro e w' ⟨rfl, ⟨nd, rfl⟩⟩) | (go_at_call 101; (with_reducible refine (impl_within.calls (l0_4.length : Int) 1 4 t125 _ A27.out).mono ?_); rintro e w' ⟨rfl, ⟨nd, rfl⟩⟩))
                go_meet
                case rel => exact ⟨_, (!t125), (by first | rfl | (simp; done) | (simp [*]; done)), H', ⟨by first | omega | exact Nat.le_refl _⟩, ⟨by (with_reducible repeat (first | refine blk_drewN ?_ _ | refine blk_drew ?_ | refine blk_alloc ?_ _)); exact BK117.out⟩, ⟨by repeat (first | (with_reducible first | exact HB.out | apply below_alloc | apply pw_below_drewN | apply below_drew1 | refine below_set ?_ GE117.out) | exact HB.out)⟩⟩
              · replace c26 := Bool.eq_false_iff.mpr c26
                subst c26
                have H1 : (impl_FrameOk.j0 k true a0_0 a0_1 a0_2 a0_3 l0_4) = some r := by rw [if_neg (show ¬ (false = true) by decide)] at H; exact H
                clear H
                have H := H1
                clear H1
                have H' := Aside0.mk H
                clear H
                have hcz29_0 : w3.cell? ⟨gb117, 0, none⟩ = some (.int .i64 a0_0) := (blk_cell BK117.out 0).trans rfl
                have hcz29_1 : w3.cell? ⟨gb117, 1, none⟩ = some (.int .i64 a0_1) := (blk_cell BK117.out 1).trans rfl
                have hcz29_2 : w3.cell? ⟨gb117, 2, none⟩ = some (.int .i64 a0_2) := (blk_cell BK117.out 2).trans rfl
                have hcz29_3 : w3.cell? ⟨gb117, 3, none⟩ = some (.int .i64 a0_3) := (blk_cell BK117.out 3).trans rfl
                have hcz29_4 : w3.cell? ⟨gb117, 4, none⟩ = some (.slice A0_4 l0_4.length c0_4) := (blk_cell BK117.out 4).trans rfl
                have hfz29_0 := blk_frozen BK117.out 0
                have hfz29_1 := blk_frozen BK117.out 1
                have hfz29_2 := blk_frozen BK117.out 2
                have hfz29_3 := blk_frozen BK117.out 3
                have hfz29_4 := blk_frozen BK117.out 4
                go_wp2_with (first | (go_at_call 101; (with_reducible refine (impl_within.calls a0_1 1 256 true _ A19.out).mono ?_); rintro e w' ⟨rfl, ⟨nd, rfl⟩⟩) | (go_at_call 101; (with_reducible refine (impl_within.calls a0_2 1 256 true _ A21.out).mono ?_); rintro e w' ⟨rfl, ⟨nd, rfl⟩⟩) | (go_at_call 101; (with_reducible refine (impl_within.calls a0_3 0 255 false _ A25.out).mono ?_); rintro e w' ⟨rfl, ⟨nd, rfl⟩⟩))
                go_meet
                case rel => exact ⟨_, (true), (by first | rfl | (simp; done) | (simp [*]; done)), H', ⟨by first | omega | exact Nat.le_refl _⟩, ⟨by (with_reducible repeat (first | refine blk_drewN ?_ _ | refine blk_drew ?_ | refine blk_alloc ?_ _)); exact BK117.out⟩, ⟨by repeat (first | (with_reducible first | exact HB.out | apply below_alloc | apply pw_below_drewN | apply below_drew1 | refine below_set ?_ GE117.out) | exact HB.out)⟩⟩
          · replace c22 := Bool.eq_false_iff.mpr c22
            subst c22
            have H1 : (impl_FrameOk.j0 k true a0_0 a0_1 a0_2 a0_3 l0_4) = some r := by rw [if_neg (show ¬ (false = true) by decide)] at H; exact H
            clear H
            have H := H1
            clear H1
            have H' := Aside0.mk H
            clear H
            have hcz30_0 : w3.cell? ⟨gb117, 0, none⟩ = some (.int .i64 a0_0) := (blk_cell BK117.out 0).trans rfl
            have hcz30_1 : w3.cell? ⟨gb117, 1, none⟩ = some (.int .i64 a0_1) := (blk_cell BK117.out 1).trans rfl
            have hcz30_2 : w3.cell? ⟨gb117, 2, none⟩ = some (.int .i64 a0_2) := (blk_cell BK117.out 2).trans rfl
            have hcz30_3 : w3.cell? ⟨gb117, 3, none⟩ = some (.int .i64 a0_3) := (blk_cell BK117.out 3).trans rfl
            have hcz30_4 : w3.cell? ⟨gb117, 4, none⟩ = some (.slice A0_4 l0_4.length c0_4) := (blk_cell BK117.out 4).trans rfl
            have hfz30_0 := blk_frozen BK117.out 0
            have hfz30_1 := blk_frozen BK117.out 1
            have hfz30_2 := blk_frozen BK117.out 2
            have hfz30_3 := blk_frozen BK117.out 3
            have hfz30_4 := blk_frozen BK117.out 4
            go_wp2_with (first | (go_at_call 101; (with_reducible refine (impl_within.calls a0_1 1 256 true _ A19.out).mono ?_); rintro e w' ⟨rfl, ⟨nd, rfl⟩⟩) | (go_at_call 101; (with_reducible refine (impl_within.calls a0_2 1 256 false _ A21.out).mono ?_); rintro e w' ⟨rfl, ⟨nd, rfl⟩⟩))
            go_meet
            case rel => exact ⟨_, (true), (by first | rfl | (simp; done) | (simp [*]; done)), H', ⟨by first | omega | exact Nat.le_refl _⟩, ⟨by (with_reducible repeat (first | refine blk_drewN ?_ _ | refine blk_drew ?_ | refine blk_alloc ?_ _)); exact BK117.out⟩, ⟨by repeat (first | (with_reducible first | exact HB.out | apply below_alloc | apply pw_below_drewN | apply below_drew1 | refine below_set ?_ GE117.out) | exact HB.out)⟩⟩
        · replace c20 := Bool.eq_false_iff.mpr c20
          subst c20
          have H1 : (impl_FrameOk.j0 k true a0_0 a0_1 a0_2 a0_3 l0_4) = some r := by rw [if_neg (show ¬ (false = true) by decide)] at H; exact H
          clear H
          have H := H1
          clear H1
          have H' := Aside0.mk H
          clear H
          have hcz31_0 : w3.cell? ⟨gb117, 0, none⟩ = some (.int .i64 a0_0) := (blk_cell BK117.out 0).trans rfl
          have hcz31_1 : w3.cell? ⟨gb117, 1, none⟩ = some (.int .i64 a0_1) := (blk_cell BK117.out 1).trans rfl
          have hcz31_2 : w3.cell? ⟨gb117, 2, none⟩ = some (.int .i64 a0_2) := (blk_cell BK117.out 2).trans rfl
          have hcz31_3 : w3.cell? ⟨gb117, 3, none⟩ = some (.int .i64 a0_3) := (blk_cell BK117.out 3).trans rfl
          have hcz31_4 : w3.cell? ⟨gb117, 4, none⟩ = some (.slice A0_4 l0_4.length c0_4) := (blk_cell BK117.out 4).trans rfl
          have hfz31_0 := blk_frozen BK117.out 0
          have hfz31_1 := blk_frozen BK117.out 1
          have hfz31_2 := blk_frozen BK117.out 2
          have hfz31_3 := blk_frozen BK117.out 3
          have hfz31_4 := blk_frozen BK117.out 4
          go_wp2_with (first | (go_at_call 101; (with_reducible refine (impl_within.calls a0_1 1 256 false _ A19.out).mono ?_); rintro e w' ⟨rfl, ⟨nd, rfl⟩⟩))
          go_meet
          case rel => exact ⟨_, (true), (by first | rfl | (simp; done) | (simp [*]; done)), H', ⟨by first | omega | exact Nat.le_refl _⟩, ⟨by (with_reducible repeat (first | refine blk_drewN ?_ _ | refine blk_drew ?_ | refine blk_alloc ?_ _)); exact BK117.out⟩, ⟨by repeat (first | (with_reducible first | exact HB.out | apply below_alloc | apply pw_below_drewN | apply below_drew1 | refine below_set ?_ GE117.out) | exact HB.out)⟩⟩
      · rw [if_neg c18] at H
        have c18b0 : (a0_0 == 12) = false := beq_eq_false_iff_ne.mpr c18
        have c18b1 : (a0_0 != 12) = true := bne_iff_ne.mpr c18
        have H' := Aside0.mk H
        clear H
        have hcz32_0 : w3.cell? ⟨gb117, 0, none⟩ = some (.int .i64 a0_0) := (blk_cell BK117.out 0).trans rfl
        have hcz32_1 : w3.cell? ⟨gb117, 1, none⟩ = some (.int .i64 a0_1) := (blk_cell BK117.out 1).trans rfl
        have hcz32_2 : w3.cell? ⟨gb117, 2, none⟩ = some (.int .i64 a0_2) := (blk_cell BK117.out 2).trans rfl
        have hcz32_3 : w3.cell? ⟨gb117, 3, none⟩ = some (.int .i64 a0_3) := (blk_cell BK117.out 3).trans rfl
        have hcz32_4 : w3.cell? ⟨gb117, 4, none⟩ = some (.slice A0_4 l0_4.length c0_4) := (blk_cell BK117.out 4).trans rfl
        have hfz32_0 := blk_frozen BK117.out 0
        have hfz32_1 := blk_frozen BK117.out 1
        have hfz32_2 := blk_frozen BK117.out 2
        have hfz32_3 := blk_frozen BK117.out 3
        have hfz32_4 := blk_frozen BK117.out 4
        go_wp2
        go_meet
        case rel => exact ⟨_, (true), (by first | rfl | (simp; done) | (simp [*]; done)), H', ⟨by first | omega | exact Nat.le_refl _⟩, ⟨by (with_reducible repeat (first | refine blk_drewN ?_ _ | refine blk_drew ?_ | refine blk_alloc ?_ _)); exact BK117.out⟩, ⟨by repeat (first | (with_reducible first | exact HB.out | apply below_alloc | apply pw_below_drewN | apply below_drew1 | refine below_set ?_ GE117.out) | exact HB.out)⟩⟩
  case rest =>
    clear HC2
    try clear c1
    try clear c2
    try clear p2
    try clear c4
    try clear c4b0
    try clear c4b1
    try clear c6
    try clear p6
    try clear c8
    try clear c9
    try clear c9b0
    try clear c12
    try clear c18
    try clear c18b0
    try clear c18b1
    try clear c20
    try clear c22
    try clear c23
    try clear c23b0
    try clear c26
    try clear hcz10_0
    try clear hcz10_1
    try clear hcz10_2
    try clear hcz10_3
    try clear hcz10_4
    try clear hcz14_0
    try clear hcz14_1
    try clear hcz14_2
    try clear hcz14_3
    try clear hcz14_4
    try clear hcz15_0
    try clear hcz15_1
    try clear hcz15_2
    try clear hcz15_3
    try clear hcz15_4
    try clear hcz16_0
    try clear hcz16_1
    try clear hcz16_2
    try clear hcz16_3
    try clear hcz16_4
    try clear hcz17_0
    try clear hcz17_1
    try clear hcz17_2
    try clear hcz17_3
    try clear hcz17_4
    try clear hcz24_0
    try clear hcz24_1
    try clear hcz24_2
    try clear hcz24_3
    try clear hcz24_4
    try clear hcz28_0
    try clear hcz28_1
    try clear hcz28_2
    try clear hcz28_3
    try clear hcz28_4
    try clear hcz29_0
    try clear hcz29_1
    try clear hcz29_2
    try clear hcz29_3
    try clear hcz29_4
    try clear hcz30_0
    try clear hcz30_1
    try clear hcz30_2
    try clear hcz30_3
    try clear hcz30_4
    try clear hcz31_0
    try clear hcz31_1
    try clear hcz31_2
    try clear hcz31_3
    try clear hcz31_4
    try clear hcz32_0
    try clear hcz32_1
    try clear hcz32_2
    try clear hcz32_3
    try clear hcz32_4
    try clear hfz10_0
    try clear hfz10_1
    try clear hfz10_2
    try clear hfz10_3
    try clear hfz10_4
    try clear hfz14_0
    try clear hfz14_1
    try clear hfz14_2
    try clear hfz14_3
    try clear hfz14_4
    try clear hfz15_0
    try clear hfz15_1
    try clear hfz15_2
    try clear hfz15_3
    try clear hfz15_4
    try clear hfz16_0
    try clear hfz16_1
    try clear hfz16_2
    try clear hfz16_3
    try clear hfz16_4
    try clear hfz17_0
    try clear hfz17_1
    try clear hfz17_2
    try clear hfz17_3
    try clear hfz17_4
    try clear hfz24_0
    try clear hfz24_1
    try clear hfz24_2
    try clear hfz24_3
    try clear hfz24_4
    try clear hfz28_0
    try clear hfz28_1
    try clear hfz28_2
    try clear hfz28_3
    try clear hfz28_4
    try clear hfz29_0
    try clear hfz29_1
    try clear hfz29_2
    try clear hfz29_3
    try clear hfz29_4
    try clear hfz30_0
    try clear hfz30_1
    try clear hfz30_2
    try clear hfz30_3
    try clear hfz30_4
    try clear hfz31_0
    try clear hfz31_1
    try clear hfz31_2
    try clear hfz31_3
    try clear hfz31_4
    try clear hfz32_0
    try clear hfz32_1
    try clear hfz32_2
    try clear hfz32_3
    try clear hfz32_4
    obtain ⟨kq, x46_1, rfl, HA, HJ1, BK117, HB⟩ := hcut
    cases kq with
    | zero => exact absurd HA.out (by simp [impl_FrameOk.j0])
    | succ kj1 =>
      have H := HA.out
      clear HA
      simp only [impl_FrameOk.j0] at H
      by_cases c33 : x46_1 = true
      · subst c33
        have H1 : (some false) = some r := by rw [if_pos rfl] at H; exact H
        clear H
        have H := H1
        clear H1
        obtain rfl := Option.some.inj H
        go_wp2
        go_ret
        exact ⟨by first | rfl | (simp [errW_none, errW_some] <;> rfl) | (simp [*, errW_none, errW_some] <;> rfl), by repeat (first | (with_reducible first | exact HB.out | apply below_alloc | apply pw_below_drewN | apply below_drew1 | refine below_set ?_ GE117.out) | exact HB.out)⟩
      · replace c33 := Bool.eq_false_iff.mpr c33
        subst c33
        have H1 : (impl_FrameOk.l0 kj1 0 l0_4 (l0_4.length : Int) 0 a0_0 a0_1 a0_2 a0_3 l0_4) = some r := by rw [if_neg (show ¬ (false = true) by decide)] at H; exact H
        clear H
        have H := H1
        clear H1
        have H' := Aside0.mk H
        clear H
        have hcz34_0 : wc.cell? ⟨gb117, 0, none⟩ = some (.int .i64 a0_0) := (blk_cell BK117.out 0).trans rfl
        have hcz34_1 : wc.cell? ⟨gb117, 1, none⟩ = some (.int .i64 a0_1) := (blk_cell BK117.out 1).trans rfl
        have hcz34_2 : wc.cell? ⟨gb117, 2, none⟩ = some (.int .i64 a0_2) := (blk_cell BK117.out 2).trans rfl
        have hcz34_3 : wc.cell? ⟨gb117, 3, none⟩ = some (.int .i64 a0_3) := (blk_cell BK117.out 3).trans rfl
        have hcz34_4 : wc.cell? ⟨gb117, 4, none⟩ = some (.slice A0_4 l0_4.length c0_4) := (blk_cell BK117.out 4).trans rfl
        have hfz34_0 := blk_frozen BK117.out 0
        have hfz34_1 := blk_frozen BK117.out 1
        have hfz34_2 := blk_frozen BK117.out 2
        have hfz34_3 := blk_frozen BK117.out 3
        have hfz34_4 := blk_frozen BK117.out 4
        go_wp2
        go_loopg [3, 50] kj1 (fun kq v3 v50 w' => ∃ (x3_2 : Int) (x50_2 : Int), v3 = .int .i64 x3_2 ∧ v50 = .int .i64 x50_2 ∧ Aside0 (impl_FrameOk.l0 kq x3_2 l0_4 (l0_4.length : Int) x50_2 a0_0 a0_1 a0_2 a0_3 l0_4 = some r) ∧ Aside0 (kq ≤ kj1) ∧ Aside0 (w'.heap[gb117]? = some (.cells #[.int .i64 a0_0, .int .i64 a0_1, .int .i64 a0_2, .int .i64 a0_3, (.slice A0_4 l0_4.length c0_4)] 45 (0, 0))) ∧ Aside0 (Below w.heap.size w w'))
        case atStart => exact ⟨(0), (0), (by first | rfl | (simp; done) | (simp [*]; done)), (by first | rfl | (simp; done) | (simp [*]; done)), H', ⟨Nat.le_refl _⟩, ⟨by (with_reducible repeat (first | refine blk_drewN ?_ _ | refine blk_drew ?_ | refine blk_alloc ?_ _)); exact BK117.out⟩, ⟨by repeat (first | (with_reducible first | exact HB.out | apply below_alloc | apply pw_below_drewN | apply below_drew1 | refine below_set ?_ GE117.out) | exact HB.out)⟩⟩
        case round =>
          clear H'
          try clear c1
          try clear c2
          try clear p2
          try clear c3
          try clear c4
          try clear c4b0
          try clear c4b1
          try clear c6
          try clear p6
          try clear c8
          try clear c9
          try clear c9b0
          try clear c12
          try clear c18
          try clear c18b0
          try clear c18b1
          try clear c20
          try clear c22
          try clear c23
          try clear c23b0
          try clear c26
          try clear c33
          try clear hcz10_0
          try clear hcz10_1
          try clear hcz10_2
          try clear hcz10_3
          try clear hcz10_4
          try clear hcz14_0
          try clear hcz14_1
          try clear hcz14_2
          try clear hcz14_3
          try clear hcz14_4
          try clear hcz15_0
          try clear hcz15_1
          try clear hcz15_2
          try clear hcz15_3
          try clear hcz15_4
          try clear hcz16_0
          try clear hcz16_1
          try clear hcz16_2
          try clear hcz16_3
          try clear hcz16_4
          try clear hcz17_0
          try clear hcz17_1
          try clear hcz17_2
          try clear hcz17_3
          try clear hcz17_4
          try clear hcz24_0
          try clear hcz24_1
          try clear hcz24_2
          try clear hcz24_3
          try clear hcz24_4
          try clear hcz28_0
          try clear hcz28_1
          try clear hcz28_2
          try clear hcz28_3
          try clear hcz28_4
          try clear hcz29_0
          try clear hcz29_1
          try clear hcz29_2
          try clear hcz29_3
          try clear hcz29_4
          try clear hcz30_0
          try clear hcz30_1
          try clear hcz30_2
          try clear hcz30_3
          try clear hcz30_4
          try clear hcz31_0
          try clear hcz31_1
          try clear hcz31_2
          try clear hcz31_3
          try clear hcz31_4
          try clear hcz32_0
          try clear hcz32_1
          try clear hcz32_2
          try clear hcz32_3
          try clear hcz32_4
          try clear hcz34_0
          try clear hcz34_1
          try clear hcz34_2
          try clear hcz34_3
          try clear hcz34_4
          try clear hfz10_0
          try clear hfz10_1
          try clear hfz10_2
          try clear hfz10_3
          try clear hfz10_4
          try clear hfz14_0
          try clear hfz14_1
          try clear hfz14_2
          try clear hfz14_3
          try clear hfz14_4
          try clear hfz15_0
          try clear hfz15_1
          try clear hfz15_2
          try clear hfz15_3
          try clear hfz15_4
          try clear hfz16_0
          try clear hfz16_1
          try clear hfz16_2
          try clear hfz16_3
          try clear hfz16_4
          try clear hfz17_0
          try clear hfz17_1
          try clear hfz17_2
          try clear hfz17_3
          try clear hfz17_4
          try clear hfz24_0
          try clear hfz24_1
          try clear hfz24_2
          try clear hfz24_3
          try clear hfz24_4
          try clear hfz28_0
          try clear hfz28_1
          try clear hfz28_2
          try clear hfz28_3
          try clear hfz28_4
          try clear hfz29_0
          try clear hfz29_1
          try clear hfz29_2
          try clear hfz29_3
          try clear hfz29_4
          try clear hfz30_0
          try clear hfz30_1
          try clear hfz30_2
          try clear hfz30_3
          try clear hfz30_4
          try clear hfz31_0
          try clear hfz31_1
          try clear hfz31_2
          try clear hfz31_3
          try clear hfz31_4
          try clear hfz32_0
          try clear hfz32_1
          try clear hfz32_2
          try clear hfz32_3
          try clear hfz32_4
          try clear hfz34_0
          try clear hfz34_1
          try clear hfz34_2
          try clear hfz34_3
          try clear hfz34_4
          try clear p2
          try clear p6
          obtain ⟨x3_2, x50_2, rfl, rfl, HA, HK2, BK117, HB⟩ := hrel
          cases gk with
          | zero => exact absurd HA.out (by simp [impl_FrameOk.l0])
          | succ k2 =>
            have H := HA.out
            clear HA
            simp only [impl_FrameOk.l0] at H
            by_cases c35 : x50_2 < (l0_4.length : Int)
            · rw [if_pos c35] at H
              have c35b0 : decide (x50_2 < (l0_4.length : Int)) = true := decide_eq_true c35
              clear c35
              by_cases c36 : 0 ≤ x50_2
              · rw [if_pos c36] at H
                have c36b0 : decide (0 ≤ x50_2) = true := decide_eq_true c36
                clear c36
                by_cases c37 : x50_2 < (l0_4.length : Int)
                · rw [if_pos c37] at H
                  have c37b0 : decide (x50_2 < (l0_4.length : Int)) = true := decide_eq_true c37
                  clear c37
                  have HC38 := Aside0.mk H
                  clear H
                  have p126 : 0 ≤ (x50_2 : Int) := of_decide_eq_true (by first | (with_reducible assumption) | assumption)
                  have q126 : x50_2 < (l0_4.length : Int) := of_decide_eq_true (by first | (with_reducible assumption) | assumption)
                  obtain ⟨ad126, e126, hx126_0, hx126_1, hx126_2, hx126_3⟩ := at_T42 HR0_4.out x50_2 p126 q126
                  cases e126
                  replace hx126_0 := (HB.out.cell (World.block_lt_of_cell? w _ hx126_0)).trans hx126_0
                  replace hx126_1 := (HB.out.cell (World.block_lt_of_cell? w _ hx126_1)).trans hx126_1
                  replace hx126_2 := (HB.out.cell (World.block_lt_of_cell? w _ hx126_2)).trans hx126_2
                  replace hx126_3 := (HB.out.cell (World.block_lt_of_cell? w _ hx126_3)).trans hx126_3
                  replace p126 := eq_true p126
                  replace q126 := eq_true q126
                  go_upto_region 7 with (first | ((with_reducible refine gate_dst (N := 5) rfl ?_); (try (refine gate_guard (by rfl) ?_; dsimp only)); refine box_event ?hg (N := 5) ?hd (cs := #[.int .i64 0, .int .i64 0, .int .i64 0, .int .i64 0]) (t := 42) ?hr ?_; (case hd => rfl); (case hg => rfl); (case hr => first | (go_simp; done) | (go_simp; rfl)); intro gb127 hg w39 hbox hb; have n0_ := Aside0.mk (blk_below (g := gb117) (o := .cells #[.int .i64 a0_0, .int .i64 a0_1, .int .i64 a0_2, .int .i64 a0_3, .slice (some ad126) l0_4.length c0_4] 45 (0, 0)) (by (with_reducible repeat (first | refine blk_drewN ?_ _ | refine blk_drew ?_ | refine blk_alloc ?_ _)); exact BK117.out) hb); have n1_ := Aside0.mk (below_step (by repeat (first | (with_reducible first | exact HB.out | apply below_alloc | apply pw_below_drewN | apply below_drew1 | refine below_set ?_ GE117.out) | exact HB.out)) hb); have n2_ := Aside0.mk (hbox); have n3_ := Aside0.mk ((by rw [hg]; exact (below_size (by repeat (first | (with_reducible first | exact HB.out | apply below_alloc | apply pw_below_drewN | apply below_drew1 | refine below_set ?_ GE117.out) | exact HB.out))) : w.heap.size ≤ gb127)); have n4_ := Aside0.mk ((by rw [hg]; exact (below_size (by repeat (first | (with_reducible first | exact HB.out | apply below_alloc | apply pw_below_drewN | apply below_drew1 | refine below_set ?_ GE117.out) | exact HB.out))) : w.heap.size ≤ gb127)); have n5_ := Aside0.mk ((by rw [hg]; exact Nat.ne_of_lt (blk_lt (g := gb117) (o := .cells #[.int .i64 a0_0, .int .i64 a0_1, .int .i64 a0_2, .int .i64 a0_3, .slice (some ad126) l0_4.length c0_4] 45 (0, 0)) (by (with_reducible repeat (first | refine blk_drewN ?_ _ | refine blk_drew ?_ | refine blk_alloc ?_ _)); exact BK117.out)) : gb117 ≠ gb127)); have n6_ := Aside0.mk ((by rw [hg]; exact Nat.ne_of_gt (blk_lt (g := gb117) (o := .cells #[.int .i64 a0_0, .int .i64 a0_1, .int .i64 a0_2, .int .i64 a0_3, .slice (some ad126) l0_4.length c0_4] 45 (0, 0)) (by (with_reducible repeat (first | refine blk_drewN ?_ _ | refine blk_drew ?_ | refine blk_alloc ?_ _)); exact BK117.out)) : gb127 ≠ gb117)); clear BK117; clear HB; have BK117 := n0_; have HB := n1_; have BK127 := n2_; have GW127 := n3_; have GE127 := n4_; have NB117_127 := n5_; have NB127_117 := n6_; clear n0_ n1_ n2_ n3_ n4_ n5_ n6_; clear hb hbox hg; have hnb40 := NB127_117.out; have hnc40 := NB117_127.out; have hcz41_0 : w39.cell? ⟨gb127, 0, none⟩ = some (.int .i64 0) := (blk_cell BK127.out 0).trans rfl; have hcz41_1 : w39.cell? ⟨gb127, 1, none⟩ = some (.int .i64 0) := (blk_cell BK127.out 1).trans rfl; have hcz41_2 : w39.cell? ⟨gb127, 2, none⟩ = some (.int .i64 0) := (blk_cell BK127.out 2).trans rfl; have hcz41_3 : w39.cell? ⟨gb127, 3, none⟩ = some (.int .i64 0) := (blk_cell BK127.out 3).trans rfl; have hfz41_0 := blk_frozen BK127.out 0; have hfz41_1 := blk_frozen BK127.out 1; have hfz41_2 := blk_frozen BK127.out 2; have hfz41_3 := blk_frozen BK127.out 3))
                  (try simp only [Act.put, List.setIfInBounds_toArray, List.set_cons_zero, List.set_cons_succ])
                  go_cut [76] (fun v76 wc => ∃ (kq : Nat) (x76_37 : Bool), v76 = .bool x76_37 ∧ Aside0 (impl_FrameOk.j2 kq x3_2 x50_2 l0_4 (l0_4.length : Int) x50_2 x76_37 a0_0 a0_1 a0_2 a0_3 l0_4 ((rd_T42 l0_4 x50_2).f0) ((rd_T42 l0_4 x50_2).f1) ((rd_T42 l0_4 x50_2).f2) ((rd_T42 l0_4 x50_2).f3) = some r) ∧ Aside0 (kq ≤ k2) ∧ Aside0 (wc.heap[gb117]? = some (.cells #[.int .i64 a0_0, .int .i64 a0_1, .int .i64 a0_2, .int .i64 a0_3, (.slice (some ad126) l0_4.length c0_4)] 45 (0, 0))) ∧ Aside0 (wc.heap[gb127]? = some (.cells #[.int .i64 ((rd_T42 l0_4 x50_2).f0), .int .i64 ((rd_T42 l0_4 x50_2).f1), .int .i64 ((rd_T42 l0_4 x50_2).f2), .int .i64 ((rd_T42 l0_4 x50_2).f3)] 42 (0, 0))) ∧ Aside0 (Below w.heap.size w wc))
                  case first =>
                    have H := HC38.out
                    clear HC38
                    replace H := Option.bind_eq_some_iff.mp H
                    obtain ⟨t128, A420, H⟩ := H
                    replace H : (if t128 = true then ((impl_within.f ((rd_T42 l0_4 x50_2).f1) 1 4).bind fun t129 => (if t129 = true then ((impl_within.f ((rd_T42 l0_4 x50_2).f2) 1 4).bind fun t130 => (if t130 = true then ((impl_within.f ((rd_T42 l0_4 x50_2).f3) 0 3).bind fun t131 => (impl_FrameOk.j2 k2 x3_2 x50_2 l0_4 (l0_4.length : Int) x50_2 (!t131) a0_0 a0_1 a0_2 a0_3 l0_4 ((rd_T42 l0_4 x50_2).f0) ((rd_T42 l0_4 x50_2).f1) ((rd_T42 l0_4 x50_2).f2) ((rd_T42 l0_4 x50_2).f3))) else (impl_FrameOk.j2 k2 x3_2 x50_2 l0_4 (l0_4.length : Int) x50_2 true a0_0 a0_1 a0_2 a0_3 l0_4 ((rd_T42 l0_4 x50_2).f0) ((rd_T42 l0_4 x50_2).f1) ((rd_T42 l0_4 x50_2).f2) ((rd_T42 l0_4 x50_2).f3)))) else (impl_FrameOk.j2 k2 x3_2 x50_2 l0_4 (l0_4.length : Int) x50_2 true a0_0 a0_1 a0_2 a0_3 l0_4 ((rd_T42 l0_4 x50_2).f0) ((rd_T42 l0_4 x50_2).f1) ((rd_T42 l0_4 x50_2).f2) ((rd_T42 l0_4 x50_2).f3)))) else (impl_FrameOk.j2 k2 x3_2 x50_2 l0_4 (l0_4.length : Int) x50_2 true a0_0 a0_1 a0_2 a0_3 l0_4 ((rd_T42 l0_4 x50_2).f0) ((rd_T42 l0_4 x50_2).f1) ((rd_T42 l0_4 x50_2).f2) ((rd_T42 l0_4 x50_2).f3))) = some r := H
                    have A42 := Aside0.mk A420
                    clear A420
                    by_cases c43 : t128 = true
                    · subst c43
                      have H1 : ((impl_within.f ((rd_T42 l0_4 x50_2).f1) 1 4).bind fun t129 => (if t129 = true then ((impl_within.f ((rd_T42 l0_4 x50_2).f2) 1 4).bind fun t130 => (if t130 = true then ((impl_within.f ((rd_T42 l0_4 x50_2).f3) 0 3).bind fun t131 => (impl_FrameOk.j2 k2 x3_2 x50_2 l0_4 (l0_4.length : Int) x50_2 (!t131) a0_0 a0_1 a0_2 a0_3 l0_4 ((rd_T42 l0_4 x50_2).f0) ((rd_T42 l0_4 x50_2).f1) ((rd_T42 l0_4 x50_2).f2) ((rd_T42 l0_4 x50_2).f3))) else (impl_FrameOk.j2 k2 x3_2 x50_2 l0_4 (l0_4.length : Int) x50_2 true a0_0 a0_1 a0_2 a0_3 l0_4 ((rd_T42 l0_4 x50_2).f0) ((rd_T42 l0_4 x50_2).f1) ((rd_T42 l0_4 x50_2).f2) ((rd_T42 l0_4 x50_2).f3)))) else (impl_FrameOk.j2 k2 x3_2 x50_2 l0_4 (l0_4.length : Int) x50_2 true a0_0 a0_1 a0_2 a0_3 l0_4 ((rd_T42 l0_4 x50_2).f0) ((rd_T42 l0_4 x50_2).f1) ((rd_T42 l0_4 x50_2).f2) ((rd_T42 l0_4 x50_2).f3)))) = some r := by rw [if_pos rfl] at H; exact H
                      clear H
                      have H := H1
                      clear H1
                      replace H := Option.bind_eq_some_iff.mp H
                      obtain ⟨t129, A440, H⟩ := H
                      replace H : (if t129 = true then ((impl_within.f ((rd_T42 l0_4 x50_2).f2) 1 4).bind fun t130 => (if t130 = true then ((impl_within.f ((rd_T42 l0_4 x50_2).f3) 0 3).bind fun t131 => (impl_FrameOk.j2 k2 x3_2 x50_2 l0_4 (l0_4.length : Int) x50_2 (!t131) a0_0 a0_1 a0_2 a0_3 l0_4 ((rd_T42 l0_4 x50_2).f0) ((rd_T42 l0_4 x50_2).f1) ((rd_T42 l0_4 x50_2).f2) ((rd_T42 l0_4 x50_2).f3))) else (impl_FrameOk.j2 k2 x3_2 x50_2 l0_4 (l0_4.length : Int) x50_2 true a0_0 a0_1 a0_2 a0_3 l0_4 ((rd_T42 l0_4 x50_2).f0) ((rd_T42 l0_4 x50_2).f1) ((rd_T42 l0_4 x50_2).f2) ((rd_T42 l0_4 x50_2).f3)))) else (impl_FrameOk.j2 k2 x3_2 x50_2 l0_4 (l0_4.length : Int) x50_2 true a0_0 a0_1 a0_2 a0_3 l0_4 ((rd_T42 l0_4 x50_2).f0) ((rd_T42 l0_4 x50_2).f1) ((rd_T42 l0_4 x50_2).f2) ((rd_T42 l0_4 x50_2).f3))) = some r := H
                      have A44 := Aside0.mk A440
                      clear A440
                      by_cases c45 : t129 = true
                      · subst c45
                        have H1 : ((impl_within.f ((rd_T42 l0_4 x50_2).f2) 1 4).bind fun t130 => (if t130 = true then ((impl_within.f ((rd_T42 l0_4 x50_2).f3) 0 3).bind fun t131 => (impl_FrameOk.j2 k2 x3_2 x50_2 l0_4 (l0_4.length : Int) x50_2 (!t131) a0_0 a0_1 a0_2 a0_3 l0_4 ((rd_T42 l0_4 x50_2).f0) ((rd_T42 l0_4 x50_2).f1) ((rd_T42 l0_4 x50_2).f2) ((rd_T42 l0_4 x50_2).f3))) else (impl_FrameOk.j2 k2 x3_2 x50_2 l0_4 (l0_4.length : Int) x50_2 true a0_0 a0_1 a0_2 a0_3 l0_4 ((rd_T42 l0_4 x50_2).f0) ((rd_T42 l0_4 x50_2).f1) ((rd_T42 l0_4 x50_2).f2) ((rd_T42 l0_4 x50_2).f3)))) = some r := by rw [if_pos rfl] at H; exact H
                        clear H
                        have H := H1
                        clear H1
                        replace H := Option.bind_eq_some_iff.mp H
                        obtain ⟨t130, A460, H⟩ := H
                        replace H : (if t130 = true then ((impl_within.f ((rd_T42 l0_4 x50_2).f3) 0 3).bind fun t131 => (impl_FrameOk.j2 k2 x3_2 x50_2 l0_4 (l0_4.length : Int) x50_2 (!t131) a0_0 a0_1 a0_2 a0_3 l0_4 ((rd_T42 l0_4 x50_2).f0) ((rd_T42 l0_4 x50_2).f1) ((rd_T42 l0_4 x50_2).f2) ((rd_T42 l0_4 x50_2).f3))) else (impl_FrameOk.j2 k2 x3_2 x50_2 l0_4 (l0_4.length : Int) x50_2 true a0_0 a0_1 a0_2 a0_3 l0_4 ((rd_T42 l0_4 x50_2).f0) ((rd_T42 l0_4 x50_2).f1) ((rd_T42 l0_4 x50_2).f2) ((rd_T42 l0_4 x50_2).f3))) = some r := H
                        have A46 := Aside0.mk A460
                        clear A460
                        by_cases c47 : t130 = true
                        · subst c47
                          have H1 : ((impl_within.f ((rd_T42 l0_4 x50_2).f3) 0 3).bind fun t131 => (impl_FrameOk.j2 k2 x3_2 x50_2 l0_4 (l0_4.length : Int) x50_2 (!t131) a0_0 a0_1 a0_2 a0_3 l0_4 ((rd_T42 l0_4 x50_2).f0) ((rd_T42 l0_4 x50_2).f1) ((rd_T42 l0_4 x50_2).f2) ((rd_T42 l0_4 x50_2).f3))) = some r := by rw [if_pos rfl] at H; exact H
                          clear H
                          have H := H1
                          clear H1
                          replace H := Option.bind_eq_some_iff.mp H
                          obtain ⟨t131, A480, H⟩ := H
                          replace H : (impl_FrameOk.j2 k2 x3_2 x50_2 l0_4 (l0_4.length : Int) x50_2 (!t131) a0_0 a0_1 a0_2 a0_3 l0_4 ((rd_T42 l0_4 x50_2).f0) ((rd_T42 l0_4 x50_2).f1) ((rd_T42 l0_4 x50_2).f2) ((rd_T42 l0_4 x50_2).f3)) = some r := H
                          have A48 := Aside0.mk A480
                          clear A480
                          have H' := Aside0.mk H
                          clear H
                          have hnb49 := NB127_117.out
                          have hnc49 := NB117_127.out
                          have hcz50_0 : w39.cell? ⟨gb127, 0, none⟩ = some (.int .i64 0) := (blk_cell BK127.out 0).trans rfl
                          have hcz50_1 : w39.cell? ⟨gb127, 1, none⟩ = some (.int .i64 0) := (blk_cell BK127.out 1).trans rfl
                          have hcz50_2 : w39.cell? ⟨gb127, 2, none⟩ = some (.int .i64 0) := (blk_cell BK127.out 2).trans rfl
                          have hcz50_3 : w39.cell? ⟨gb127, 3, none⟩ = some (.int .i64 0) := (blk_cell BK127.out 3).trans rfl
                          have hfz50_0 := blk_frozen BK127.out 0
                          have hfz50_1 := blk_frozen BK127.out 1
                          have hfz50_2 := blk_frozen BK127.out 2
                          have hfz50_3 := blk_frozen BK127.out 3
                          go_wp2_with (first | ((with_reducible refine gate_callee (f := 101) rfl ?_); refine goesL_ (some 57) rfl rfl Try.func101 (by kernel_rfl) rfl #[.int .i64 ((rd_T42 l0_4 x50_2).f0), .int .i64 0, .int .i64 255] rfl (by (try simp only [List.map_toArray, List.map_cons, List.map_nil]); first | done | rfl | (simp only [List.length_drop, List.length_take]; rfl)) ?_; (with_reducible refine (impl_within.calls ((rd_T42 l0_4 x50_2).f0) 0 255 true _ A42.out).mono ?_); rintro e w' ⟨rfl, ⟨nd, rfl⟩⟩; refine ⟨_, rfl, ?_⟩) | (go_at_call 101; (with_reducible refine (impl_within.calls ((rd_T42 l0_4 x50_2).f1) 1 4 true _ A44.out).mono ?_); rintro e w' ⟨rfl, ⟨nd, rfl⟩⟩) | (go_at_call 101; (with_reducible refine (impl_within.calls ((rd_T42 l0_4 x50_2).f2) 1 4 true _ A46.out).mono ?_); rintro e w' ⟨rfl, ⟨nd, rfl⟩⟩) | (go_at_call 101; (with_reducible refine (impl_within.calls ((rd_T42 l0_4 x50_2).f3) 0 3 t131 _ A48.out).mono ?_); rintro e w' ⟨rfl, ⟨nd, rfl⟩⟩))
                          go_meet
                          case rel => exact ⟨_, (!t131), (by first | rfl | (simp; done) | (simp [*]; done)), H', ⟨by have := HJ1.out; have := HK2.out; first | omega | exact Nat.le_refl _⟩, ⟨by (with_reducible repeat (first | refine blk_drewN ?_ _ | refine blk_drew ?_ | refine blk_alloc ?_ _)); refine blk_far ?_ NB117_127.out _; (with_reducible repeat (first | refine blk_drewN ?_ _ | refine blk_drew ?_ | refine blk_alloc ?_ _)); refine blk_far ?_ NB117_127.out _; (with_reducible repeat (first | refine blk_drewN ?_ _ | refine blk_drew ?_ | refine blk_alloc ?_ _)); refine blk_far ?_ NB117_127.out _; (with_reducible repeat (first | refine blk_drewN ?_ _ | refine blk_drew ?_ | refine blk_alloc ?_ _)); refine blk_far ?_ NB117_127.out _; (with_reducible repeat (first | refine blk_drewN ?_ _ | refine blk_drew ?_ | refine blk_alloc ?_ _)); exact BK117.out⟩, ⟨by (with_reducible repeat (first | refine blk_drewN ?_ _ | refine blk_drew ?_ | refine blk_alloc ?_ _)); refine blk_put (cs := #[.int .i64 ((rd_T42 l0_4 x50_2).f0), .int .i64 ((rd_T42 l0_4 x50_2).f1), .int .i64 ((rd_T42 l0_4 x50_2).f2), .int .i64 0]) ?_ 3 _ rfl; (with_reducible repeat (first | refine blk_drewN ?_ _ | refine blk_drew ?_ | refine blk_alloc ?_ _)); refine blk_put (cs := #[.int .i64 ((rd_T42 l0_4 x50_2).f0), .int .i64 ((rd_T42 l0_4 x50_2).f1), .int .i64 0, .int .i64 0]) ?_ 2 _ rfl; (with_reducible repeat (first | refine blk_drewN ?_ _ | refine blk_drew ?_ | refine blk_alloc ?_ _)); refine blk_put (cs := #[.int .i64 ((rd_T42 l0_4 x50_2).f0), .int .i64 0, .int .i64 0, .int .i64 0]) ?_ 1 _ rfl; (with_reducible repeat (first | refine blk_drewN ?_ _ | refine blk_drew ?_ | refine blk_alloc ?_ _)); refine blk_put (cs := #[.int .i64 0, .int .i64 0, .int .i64 0, .int .i64 0]) ?_ 0 _ rfl; (with_reducible repeat (first | refine blk_drewN ?_ _ | refine blk_drew ?_ | refine blk_alloc ?_ _)); exact BK127.out⟩, ⟨by repeat (first | (with_reducible first | exact HB.out | apply below_alloc | apply pw_below_drewN | apply below_drew1 | refine below_set ?_ GE117.out | refine below_set ?_ GE127.out) | exact HB.out)⟩⟩
                        · replace c47 := Bool.eq_false_iff.mpr c47
                          subst c47
                          have H1 : (impl_FrameOk.j2 k2 x3_2 x50_2 l0_4 (l0_4.length : Int) x50_2 true a0_0 a0_1 a0_2 a0_3 l0_4 ((rd_T42 l0_4 x50_2).f0) ((rd_T42 l0_4 x50_2).f1) ((rd_T42 l0_4 x50_2).f2) ((rd_T42 l0_4 x50_2).f3)) = some r := by rw [if_neg (show ¬ (false = true) by decide)] at H; exact H
                          clear H
                          have H := H1
                          clear H1
                          have H' := Aside0.mk H
                          clear H
                          have hnb51 := NB127_117.out
                          have hnc51 := NB117_127.out
                          have hcz52_0 : w39.cell? ⟨gb127, 0, none⟩ = some (.int .i64 0) := (blk_cell BK127.out 0).trans rfl
                          have hcz52_1 : w39.cell? ⟨gb127, 1, none⟩ = some (.int .i64 0) := (blk_cell BK127.out 1).trans rfl
                          have hcz52_2 : w39.cell? ⟨gb127, 2, none⟩ = some (.int .i64 0) := (blk_cell BK127.out 2).trans rfl
                          have hcz52_3 : w39.cell? ⟨gb127, 3, none⟩ = some (.int .i64 0) := (blk_cell BK127.out 3).trans rfl
                          have hfz52_0 := blk_frozen BK127.out 0
                          have hfz52_1 := blk_frozen BK127.out 1
                          have hfz52_2 := blk_frozen BK127.out 2
                          have hfz52_3 := blk_frozen BK127.out 3
                          go_wp2_with (first | ((with_reducible refine gate_callee (f := 101) rfl ?_); refine goesL_ (some 57) rfl rfl Try.func101 (by kernel_rfl) rfl #[.int .i64 ((rd_T42 l0_4 x50_2).f0), .int .i64 0, .int .i64 255] rfl (by (try simp only [List.map_toArray, List.map_cons, List.map_nil]); first | done | rfl | (simp only [List.length_drop, List.length_take]; rfl)) ?_; (with_reducible refine (impl_within.calls ((rd_T42 l0_4 x50_2).f0) 0 255 true _ A42.out).mono ?_); rintro e w' ⟨rfl, ⟨nd, rfl⟩⟩; refine ⟨_, rfl, ?_⟩) | (go_at_call 101; (with_reducible refine (impl_within.calls ((rd_T42 l0_4 x50_2).f1) 1 4 true _ A44.out).mono ?_); rintro e w' ⟨rfl, ⟨nd, rfl⟩⟩) | (go_at_call 101; (with_reducible refine (impl_within.calls ((rd_T42 l0_4 x50_2).f2) 1 4 false _ A46.out).mono ?_); rintro e w' ⟨rfl, ⟨nd, rfl⟩⟩))
                          go_meet
                          case rel => exact ⟨_, (true), (by first | rfl | (simp; done) | (simp [*]; done)), H', ⟨by have := HJ1.out; have := HK2.out; first | omega | exact Nat.le_refl _⟩, ⟨by (with_reducible repeat (first | refine blk_drewN ?_ _ | refine blk_drew ?_ | refine blk_alloc ?_ _)); refine blk_far ?_ NB117_127.out _; (with_reducible repeat (first | refine blk_drewN ?_ _ | refine blk_drew ?_ | refine blk_alloc ?_ _)); refine blk_far ?_ NB117_127.out _; (with_reducible repeat (first | refine blk_drewN ?_ _ | refine blk_drew ?_ | refine blk_alloc ?_ _)); refine blk_far ?_ NB117_127.out _; (with_reducible repeat (first | refine blk_drewN ?_ _ | refine blk_drew ?_ | refine blk_alloc ?_ _)); refine blk_far ?_ NB117_127.out _; (with_reducible repeat (first | refine blk_drewN ?_ _ | refine blk_drew ?_ | refine blk_alloc ?_ _)); exact BK117.out⟩, ⟨by (with_reducible repeat (first | refine blk_drewN ?_ _ | refine blk_drew ?_ | refine blk_alloc ?_ _)); refine blk_put (cs := #[.int .i64 ((rd_T42 l0_4 x50_2).f0), .int .i64 ((rd_T42 l0_4 x50_2).f1), .int .i64 ((rd_T42 l0_4 x50_2).f2), .int .i64 0]) ?_ 3 _ rfl; (with_reducible repeat (first | refine blk_drewN ?_ _ | refine blk_drew ?_ | refine blk_alloc ?_ _)); refine blk_put (cs := #[.int .i64 ((rd_T42 l0_4 x50_2).f0), .int .i64 ((rd_T42 l0_4 x50_2).f1), .int .i64 0, .int .i64 0]) ?_ 2 _ rfl; (with_reducible repeat (first | refine blk_drewN ?_ _ | refine blk_drew ?_ | refine blk_alloc ?_ _)); refine blk_put (cs := #[.int .i64 ((rd_T42 l0_4 x50_2).f0), .int .i64 0, .int .i64 0, .int .i64 0]) ?_ 1 _ rfl; (with_reducible repeat (first | refine blk_drewN ?_ _ | refine blk_drew ?_ | refine blk_alloc ?_ _)); refine blk_put (cs := #[.int .i64 0, .int .i64 0, .int .i64 0, .int .i64 0]) ?_ 0 _ rfl; (with_reducible repeat (first | refine blk_drewN ?_ _ | refine blk_drew ?_ | refine blk_alloc ?_ _)); exact BK127.out⟩, ⟨by repeat (first | (with_reducible first | exact HB.out | apply below_alloc | apply pw_below_drewN | apply below_drew1 | refine below_set ?_ GE117.out | refine below_set ?_ GE127.out) | exact HB.out)⟩⟩
                      · replace c45 := Bool.eq_false_iff.mpr c45
                        subst c45
                        have H1 : (impl_FrameOk.j2 k2 x3_2 x50_2 l0_4 (l0_4.length : Int) x50_2 true a0_0 a0_1 a0_2 a0_3 l0_4 ((rd_T42 l0_4 x50_2).f0) ((rd_T42 l0_4 x50_2).f1) ((rd_T42 l0_4 x50_2).f2) ((rd_T42 l0_4 x50_2).f3)) = some r := by rw [if_neg (show ¬ (false = true) by decide)] at H; exact H
                        clear H
                        have H := H1
                        clear H1
                        have H' := Aside0.mk H
                        clear H
                        have hnb53 := NB127_117.out
                        have hnc53 := NB117_127.out
                        have hcz54_0 : w39.cell? ⟨gb127, 0, none⟩ = some (.int .i64 0) := (blk_cell BK127.out 0).trans rfl
                        have hcz54_1 : w39.cell? ⟨gb127, 1, none⟩ = some (.int .i64 0) := (blk_cell BK127.out 1).trans rfl
                        have hcz54_2 : w39.cell? ⟨gb127, 2, none⟩ = some (.int .i64 0) := (blk_cell BK127.out 2).trans rfl
                        have hcz54_3 : w39.cell? ⟨gb127, 3, none⟩ = some (.int .i64 0) := (blk_cell BK127.out 3).trans rfl
                        have hfz54_0 := blk_frozen BK127.out 0
                        have hfz54_1 := blk_frozen BK127.out 1
                        have hfz54_2 := blk_frozen BK127.out 2
                        have hfz54_3 := blk_frozen BK127.out 3
                        go_wp2_with (first | ((with_reducible refine gate_callee (f := 101) rfl ?_); refine goesL_ (some 57) rfl rfl Try.func101 (by kernel_rfl) rfl #[.int .i64 ((rd_T42 l0_4 x50_2).f0), .int .i64 0, .int .i64 255] rfl (by (try simp only [List.map_toArray, List.map_cons, List.map_nil]); first | done | rfl | (simp only [List.length_drop, List.length_take]; rfl)) ?_; (with_reducible refine (impl_within.calls ((rd_T42 l0_4 x50_2).f0) 0 255 true _ A42.out).mono ?_); rintro e w' ⟨rfl, ⟨nd, rfl⟩⟩; refine ⟨_, rfl, ?_⟩) | (go_at_call 101; (with_reducible refine (impl_within.calls ((rd_T42 l0_4 x50_2).f1) 1 4 false _ A44.out).mono ?_); rintro e w' ⟨rfl, ⟨nd, rfl⟩⟩))
                        go_meet
                        case rel => exact ⟨_, (true), (by first | rfl | (simp; done) | (simp [*]; done)), H', ⟨by have := HJ1.out; have := HK2.out; first | omega | exact Nat.le_refl _⟩, ⟨by (with_reducible repeat (first | refine blk_drewN ?_ _ | refine blk_drew ?_ | refine blk_alloc ?_ _)); refine blk_far ?_ NB117_127.out _; (with_reducible repeat (first | refine blk_drewN ?_ _ | refine blk_drew ?_ | refine blk_alloc ?_ _)); refine blk_far ?_ NB117_127.out _; (with_reducible repeat (first | refine blk_drewN ?_ _ | refine blk_drew ?_ | refine blk_alloc ?_ _)); refine blk_far ?_ NB117_127.out _; (with_reducible repeat (first | refine blk_drewN ?_ _ | refine blk_drew ?_ | refine blk_alloc ?_ _)); refine blk_far ?_ NB117_127.out _; (with_reducible repeat (first | refine blk_drewN ?_ _ | refine blk_drew ?_ | refine blk_alloc ?_ _)); exact BK117.out⟩, ⟨by (with_reducible repeat (first | refine blk_drewN ?_ _ | refine blk_drew ?_ | refine blk_alloc ?_ _)); refine blk_put (cs := #[.int .i64 ((rd_T42 l0_4 x50_2).f0), .int .i64 ((rd_T42 l0_4 x50_2).f1), .int .i64 ((rd_T42 l0_4 x50_2).f2), .int .i64 0]) ?_ 3 _ rfl; (with_reducible repeat (first | refine blk_drewN ?_ _ | refine blk_drew ?_ | refine blk_alloc ?_ _)); refine blk_put (cs := #[.int .i64 ((rd_T42 l0_4 x50_2).f0), .int .i64 ((rd_T42 l0_4 x50_2).f1), .int .i64 0, .int .i64 0]) ?_ 2 _ rfl; (with_reducible repeat (first | refine blk_drewN ?_ _ | refine blk_drew ?_ | refine blk_alloc ?_ _)); refine blk_put (cs := #[.int .i64 ((rd_T42 l0_4 x50_2).f0), .int .i64 0, .int .i64 0, .int .i64 0]) ?_ 1 _ rfl; (with_reducible repeat (first | refine blk_drewN ?_ _ | refine blk_drew ?_ | refine blk_alloc ?_ _)); refine blk_put (cs := #[.int .i64 0, .int .i64 0, .int .i64 0, .int .i64 0]) ?_ 0 _ rfl; (with_reducible repeat (first | refine blk_drewN ?_ _ | refine blk_drew ?_ | refine blk_alloc ?_ _)); exact BK127.out⟩, ⟨by repeat (first | (with_reducible first | exact HB.out | apply below_alloc | apply pw_below_drewN | apply below_drew1 | refine below_set ?_ GE117.out | refine below_set ?_ GE127.out) | exact HB.out)⟩⟩
                    · replace c43 := Bool.eq_false_iff.mpr c43
                      subst c43
                      have H1 : (impl_FrameOk.j2 k2 x3_2 x50_2 l0_4 (l0_4.length : Int) x50_2 true a0_0 a0_1 a0_2 a0_3 l0_4 ((rd_T42 l0_4 x50_2).f0) ((rd_T42 l0_4 x50_2).f1) ((rd_T42 l0_4 x50_2).f2) ((rd_T42 l0_4 x50_2).f3)) = some r := by rw [if_neg (show ¬ (false = true) by decide)] at H; exact H
                      clear H
                      have H := H1
                      clear H1
                      have H' := Aside0.mk H
                      clear H
                      have hnb55 := NB127_117.out
                      have hnc55 := NB117_127.out
                      have hcz56_0 : w39.cell? ⟨gb127, 0, none⟩ = some (.int .i64 0) := (blk_cell BK127.out 0).trans rfl
                      have hcz56_1 : w39.cell? ⟨gb127, 1, none⟩ = some (.int .i64 0) := (blk_cell BK127.out 1).trans rfl
                      have hcz56_2 : w39.cell? ⟨gb127, 2, none⟩ = some (.int .i64 0) := (blk_cell BK127.out 2).trans rfl
                      have hcz56_3 : w39.cell? ⟨gb127, 3, none⟩ = some (.int .i64 0) := (blk_cell BK127.out 3).trans rfl
                      have hfz56_0 := blk_frozen BK127.out 0
                      have hfz56_1 := blk_frozen BK127.out 1
                      have hfz56_2 := blk_frozen BK127.out 2
                      have hfz56_3 := blk_frozen BK127.out 3
                      go_wp2_with (first | ((with_reducible refine gate_callee (f := 101) rfl ?_); refine goesL_ (some 57) rfl rfl Try.func101 (by kernel_rfl) rfl #[.int .i64 ((rd_T42 l0_4 x50_2).f0), .int .i64 0, .int .i64 255] rfl (by (try simp only [List.map_toArray, List.map_cons, List.map_nil]); first | done | rfl | (simp only [List.length_drop, List.length_take]; rfl)) ?_; (with_reducible refine (impl_within.calls ((rd_T42 l0_4 x50_2).f0) 0 255 false _ A42.out).mono ?_); rintro e w' ⟨rfl, ⟨nd, rfl⟩⟩; refine ⟨_, rfl, ?_⟩))
                      go_meet
                      case rel => exact ⟨_, (true), (by first | rfl | (simp; done) | (simp [*]; done)), H', ⟨by have := HJ1.out; have := HK2.out; first | omega | exact Nat.le_refl _⟩, ⟨by (with_reducible repeat (first | refine blk_drewN ?_ _ | refine blk_drew ?_ | refine blk_alloc ?_ _)); refine blk_far ?_ NB117_127.out _; (with_reducible repeat (first | refine blk_drewN ?_ _ | refine blk_drew ?_ | refine blk_alloc ?_ _)); refine blk_far ?_ NB117_127.out _; (with_reducible repeat (first | refine blk_drewN ?_ _ | refine blk_drew ?_ | refine blk_alloc ?_ _)); refine blk_far ?_ NB117_127.out _; (with_reducible repeat (first | refine blk_drewN ?_ _ | refine blk_drew ?_ | refine blk_alloc ?_ _)); refine blk_far ?_ NB117_127.out _; (with_reducible repeat (first | refine blk_drewN ?_ _ | refine blk_drew ?_ | refine blk_alloc ?_ _)); exact BK117.out⟩, ⟨by (with_reducible repeat (first | refine blk_drewN ?_ _ | refine blk_drew ?_ | refine blk_alloc ?_ _)); refine blk_put (cs := #[.int .i64 ((rd_T42 l0_4 x50_2).f0), .int .i64 ((rd_T42 l0_4 x50_2).f1), .int .i64 ((rd_T42 l0_4 x50_2).f2), .int .i64 0]) ?_ 3 _ rfl; (with_reducible repeat (first | refine blk_drewN ?_ _ | refine blk_drew ?_ | refine blk_alloc ?_ _)); refine blk_put (cs := #[.int .i64 ((rd_T42 l0_4 x50_2).f0), .int .i64 ((rd_T42 l0_4 x50_2).f1), .int .i64 0, .int .i64 0]) ?_ 2 _ rfl; (with_reducible repeat (first | refine blk_drewN ?_ _ | refine blk_drew ?_ | refine blk_alloc ?_ _)); refine blk_put (cs := #[.int .i64 ((rd_T42 l0_4 x50_2).f0), .int .i64 0, .int .i64 0, .int .i64 0]) ?_ 1 _ rfl; (with_reducible repeat (first | refine blk_drewN ?_ _ | refine blk_drew ?_ | refine blk_alloc ?_ _)); refine blk_put (cs := #[.int .i64 0, .int .i64 0, .int .i64 0, .int .i64 0]) ?_ 0 _ rfl; (with_reducible repeat (first | refine blk_drewN ?_ _ | refine blk_drew ?_ | refine blk_alloc ?_ _)); exact BK127.out⟩, ⟨by repeat (first | (with_reducible first | exact HB.out | apply below_alloc | apply pw_below_drewN | apply below_drew1 | refine below_set ?_ GE117.out | refine below_set ?_ GE127.out) | exact HB.out)⟩⟩
                  case rest =>
                    clear HC38
                    try clear c1
                    try clear p1
                    try clear q1
                    try clear hx1
                    try clear c2
                    try clear p2
                    try clear c3
                    try clear c4
                    try clear c4b0
                    try clear c4b1
                    try clear c5
                    try clear c6
                    try clear p6
                    try clear c8
                    try clear c9
                    try clear c9b0
                    try clear c10
                    try clear c12
                    try clear p12
                    try clear q12
                    try clear hx12
                    try clear c18
                    try clear c18b0
                    try clear c18b1
                    try clear c20
                    try clear c22
                    try clear c23
                    try clear c23b0
                    try clear c26
                    try clear c33
                    try clear c35
                    try clear c35b0
                    try clear c36
                    try clear c36b0
                    try clear c37
                    try clear c37b0
                    try clear c40
                    try clear c43
                    try clear c45
                    try clear c47
                    try clear c49
                    try clear c51
                    try clear c53
                    try clear c55
                    try clear hcz10_0
                    try clear hcz10_1
                    try clear hcz10_2
                    try clear hcz10_3
                    try clear hcz10_4
                    try clear hcz14_0
                    try clear hcz14_1
                    try clear hcz14_2
                    try clear hcz14_3
                    try clear hcz14_4
                    try clear hcz15_0
                    try clear hcz15_1
                    try clear hcz15_2
                    try clear hcz15_3
                    try clear hcz15_4
                    try clear hcz16_0
                    try clear hcz16_1
                    try clear hcz16_2
                    try clear hcz16_3
                    try clear hcz16_4
                    try clear hcz17_0
                    try clear hcz17_1
                    try clear hcz17_2
                    try clear hcz17_3
                    try clear hcz17_4
                    try clear hcz24_0
                    try clear hcz24_1
                    try clear hcz24_2
                    try clear hcz24_3
                    try clear hcz24_4
                    try clear hcz28_0
                    try clear hcz28_1
                    try clear hcz28_2
                    try clear hcz28_3
                    try clear hcz28_4
                    try clear hcz29_0
                    try clear hcz29_1
                    try clear hcz29_2
                    try clear hcz29_3
                    try clear hcz29_4
                    try clear hcz30_0
                    try clear hcz30_1
                    try clear hcz30_2
                    try clear hcz30_3
                    try clear hcz30_4
                    try clear hcz31_0
                    try clear hcz31_1
                    try clear hcz31_2
                    try clear hcz31_3
                    try clear hcz31_4
                    try clear hcz32_0
                    try clear hcz32_1
                    try clear hcz32_2
                    try clear hcz32_3
                    try clear hcz32_4
                    try clear hcz34_0
                    try clear hcz34_1
                    try clear hcz34_2
                    try clear hcz34_3
                    try clear hcz34_4
                    try clear hcz41_0
                    try clear hcz41_1
                    try clear hcz41_2
                    try clear hcz41_3
                    try clear hcz50_0
                    try clear hcz50_1
                    try clear hcz50_2
                    try clear hcz50_3
                    try clear hcz52_0
                    try clear hcz52_1
                    try clear hcz52_2
                    try clear hcz52_3
                    try clear hcz54_0
                    try clear hcz54_1
                    try clear hcz54_2
                    try clear hcz54_3
                    try clear hcz56_0
                    try clear hcz56_1
                    try clear hcz56_2
                    try clear hcz56_3
                    try clear hfz10_0
                    try clear hfz10_1
                    try clear hfz10_2
                    try clear hfz10_3
                    try clear hfz10_4
                    try clear hfz14_0
                    try clear hfz14_1
                    try clear hfz14_2
                    try clear hfz14_3
                    try clear hfz14_4
                    try clear hfz15_0
                    try clear hfz15_1
                    try clear hfz15_2
                    try clear hfz15_3
                    try clear hfz15_4
                    try clear hfz16_0
                    try clear hfz16_1
                    try clear hfz16_2
                    try clear hfz16_3
                    try clear hfz16_4
                    try clear hfz17_0
                    try clear hfz17_1
                    try clear hfz17_2
                    try clear hfz17_3
                    try clear hfz17_4
                    try clear hfz24_0
                    try clear hfz24_1
                    try clear hfz24_2
                    try clear hfz24_3
                    try clear hfz24_4
                    try clear hfz28_0
                    try clear hfz28_1
                    try clear hfz28_2
                    try clear hfz28_3
                    try clear hfz28_4
                    try clear hfz29_0
                    try clear hfz29_1
                    try clear hfz29_2
                    try clear hfz29_3
                    try clear hfz29_4
                    try clear hfz30_0
                    try clear hfz30_1
                    try clear hfz30_2
                    try clear hfz30_3
                    try clear hfz30_4
                    try clear hfz31_0
                    try clear hfz31_1
                    try clear hfz31_2
                    try clear hfz31_3
                    try clear hfz31_4
                    try clear hfz32_0
                    try clear hfz32_1
                    try clear hfz32_2
                    try clear hfz32_3
                    try clear hfz32_4
                    try clear hfz34_0
                    try clear hfz34_1
                    try clear hfz34_2
                    try clear hfz34_3
                    try clear hfz34_4
                    try clear hfz41_0
                    try clear hfz41_1
                    try clear hfz41_2
                    try clear hfz41_3
                    try clear hfz50_0
                    try clear hfz50_1
                    try clear hfz50_2
                    try clear hfz50_3
                    try clear hfz52_0
                    try clear hfz52_1
                    try clear hfz52_2
                    try clear hfz52_3
                    try clear hfz54_0
                    try clear hfz54_1
                    try clear hfz54_2
                    try clear hfz54_3
                    try clear hfz56_0
                    try clear hfz56_1
                    try clear hfz56_2
                    try clear hfz56_3
                    try clear hx126_0
                    try clear hx126_1
                    try clear hx126_2
                    try clear hx126_3
                    try clear p126
                    try clear p2
                    try clear p6
                    try clear q126
                    obtain ⟨kq, x76_37, rfl, HA, HJ37, BK117, BK127, HB⟩ := hcut
                    cases kq with
                    | zero => exact absurd HA.out (by simp [impl_FrameOk.j2])
                    | succ kj37 =>
                      have H := HA.out
                      clear HA
                      simp only [impl_FrameOk.j2] at H
                      by_cases c57 : x76_37 = true
                      · subst c57
                        have H1 : (some false) = some r := by rw [if_pos rfl] at H; exact H
                        clear H
                        have H := H1
                        clear H1
                        obtain rfl := Option.some.inj H
                        go_wp2
                        go_ret
                        exact ⟨by first | rfl | (simp [errW_none, errW_some] <;> rfl) | (simp [*, errW_none, errW_some] <;> rfl), by repeat (first | (with_reducible first | exact HB.out | apply below_alloc | apply pw_below_drewN | apply below_drew1 | refine below_set ?_ GE117.out | refine below_set ?_ GE127.out) | exact HB.out)⟩
                      · replace c57 := Bool.eq_false_iff.mpr c57
                        subst c57
                        have H1 : (if 0 ≤ x50_2 then (if x50_2 ≤ (l0_4.length : Int) then ((impl_FrameOk_1.f (l0_4.take (x50_2 : Int).toNat) ((rd_T42 l0_4 x50_2).f0) ((rd_T42 l0_4 x50_2).f1) ((rd_T42 l0_4 x50_2).f2) ((rd_T42 l0_4 x50_2).f3)).bind fun t136 => (if t136 = true then (some false) else (impl_FrameOk.l0 kj37 (wrap64 (x3_2 + (wrap64 (((rd_T42 l0_4 x50_2).f1) * ((rd_T42 l0_4 x50_2).f2))))) l0_4 (l0_4.length : Int) (wrap64 (x50_2 + 1)) a0_0 a0_1 a0_2 a0_3 l0_4))) else (none)) else (none)) = some r := by rw [if_neg (show ¬ (false = true) by decide)] at H; exact H
                        clear H
                        have H := H1
                        clear H1
                        by_cases c58 : 0 ≤ x50_2
                        · rw [if_pos c58] at H
                          have c58b0 := eq_true c58
                          have c58b1 : decide (0 ≤ x50_2) = true := decide_eq_true c58
                          clear c58
                          by_cases c59 : x50_2 ≤ (l0_4.length : Int)
                          · rw [if_pos c59] at H
                            have c59b0 := eq_true c59
                            have c59b1 : decide (x50_2 ≤ (l0_4.length : Int)) = true := decide_eq_true c59
                            clear c59
                            obtain ⟨y132, hy132⟩ : ∃ y_ : List (S42), y_ = (l0_4.take (x50_2 : Int).toNat) := ⟨_, rfl⟩
                            replace H : ((impl_FrameOk_1.f y132 ((rd_T42 l0_4 x50_2).f0) ((rd_T42 l0_4 x50_2).f1) ((rd_T42 l0_4 x50_2).f2) ((rd_T42 l0_4 x50_2).f3)).bind fun t136 => (if t136 = true then (some false) else (impl_FrameOk.l0 kj37 (wrap64 (x3_2 + (wrap64 (((rd_T42 l0_4 x50_2).f1) * ((rd_T42 l0_4 x50_2).f2))))) l0_4 (l0_4.length : Int) (wrap64 (x50_2 + 1)) a0_0 a0_1 a0_2 a0_3 l0_4))) = some r := by first | (rw [hy132]; with_reducible exact H) | (have H2_ := (Option.bind_some _ _).symm.trans H; rw [hy132]; with_reducible exact H2_) | (have H2_ := (Option.bind_some _ _).symm.trans H; with_reducible exact H2_) | with_reducible exact H | (rw [hy132]; exact H) | exact H
                            have Ny132 := Aside0.mk hy132
                            clear hy132
                            replace H := Option.bind_eq_some_iff.mp H
                            obtain ⟨t136, A600, H⟩ := H
                            replace H : (if t136 = true then (some false) else (impl_FrameOk.l0 kj37 (wrap64 (x3_2 + (wrap64 (((rd_T42 l0_4 x50_2).f1) * ((rd_T42 l0_4 x50_2).f2))))) l0_4 (l0_4.length : Int) (wrap64 (x50_2 + 1)) a0_0 a0_1 a0_2 a0_3 l0_4)) = some r := H
                            have A60 := Aside0.mk A600
                            clear A600
                            by_cases c61 : t136 = true
                            · subst c61
                              have H1 : (some false) = some r := by rw [if_pos rfl] at H; exact H
                              clear H
                              have H := H1
                              clear H1
                              obtain rfl := Option.some.inj H
                              have hnb62 := NB117_127.out
                              have hnc62 := NB127_117.out
                              have hcz63_0 : wc.cell? ⟨gb117, 0, none⟩ = some (.int .i64 a0_0) := (blk_cell BK117.out 0).trans rfl
                              have hcz63_1 : wc.cell? ⟨gb117, 1, none⟩ = some (.int .i64 a0_1) := (blk_cell BK117.out 1).trans rfl
                              have hcz63_2 : wc.cell? ⟨gb117, 2, none⟩ = some (.int .i64 a0_2) := (blk_cell BK117.out 2).trans rfl
                              have hcz63_3 : wc.cell? ⟨gb117, 3, none⟩ = some (.int .i64 a0_3) := (blk_cell BK117.out 3).trans rfl
                              have hcz63_4 : wc.cell? ⟨gb117, 4, none⟩ = some (.slice (some ad126) l0_4.length c0_4) := (blk_cell BK117.out 4).trans rfl
                              have hfz63_0 := blk_frozen BK117.out 0
                              have hfz63_1 := blk_frozen BK117.out 1
                              have hfz63_2 := blk_frozen BK117.out 2
                              have hfz63_3 := blk_frozen BK117.out 3
                              have hfz63_4 := blk_frozen BK117.out 4
                              have q64 : (x50_2 : Int) ≤ ((l0_4.length : Int) : Int) := of_decide_eq_true (by first | (with_reducible assumption) | assumption)
                              obtain ⟨i064, hi064, _, hsz64, _⟩ := info_parts info42
                              have hroom64 : l0_4.length ≤ c0_4 := HC0_4.out
                              have hC64 : Kd.C k42 _ (some ad126) l0_4.length l0_4 := HR0_4.out
                              have hcut64 := cut_to (P := Try.prog) 43 42 .i64 Try.underlying43 hi064 (some ad126) l0_4.length c0_4 x50_2 (of_decide_eq_true (by first | (with_reducible assumption) | assumption)) q64 hroom64
                              have hr64 := Kd.C_take (m := (x50_2 : Int).toNat) hC64 (by omega)
                              have hy64 : y132.length = (x50_2 : Int).toNat := (by rw [Ny132.out, List.length_take]; omega)
                              rw [← Ny132.out] at hr64
                              rw [← hy64] at hcut64
                              have HR135 := Aside0.mk hr64
                              have HC135 := Aside0.mk (show y132.length ≤ c0_4 from by omega)
                              clear hr64 hC64 hroom64 hi064 hsz64
                              have KY64 := Aside0.mk hy64
                              clear hy64
                              replace q64 := eq_true q64
                              go_wp2_with (first | ((with_reducible refine gate_callee (f := 124) rfl ?_); refine goesL_ (some 82) rfl rfl Try.func124 (by kernel_rfl) rfl #[.slice (some ad126) y132.length c0_4, .func (.func 125) #[] #[.pointer (some ⟨gb127, 0, none⟩)]] rfl (by (try simp only [List.map_toArray, List.map_cons, List.map_nil]); first | done | rfl | (simp only [List.length_drop, List.length_take]; rfl)) ?_; (with_reducible refine (impl_FrameOk_1.calls _ _ y132 gb127 ((rd_T42 l0_4 x50_2).f0) ((rd_T42 l0_4 x50_2).f1) ((rd_T42 l0_4 x50_2).f2) ((rd_T42 l0_4 x50_2).f3) true _ ?side1 ?side2 ?side3 A60.out).mono ?_); (case side1 => repeat (first | exact (Kd.C_below HR135.out HB.out) | (with_reducible refine Kd.C_alloc ?_ _) | (with_reducible refine Kd.C_drewN ?_ _) | (with_reducible refine Kd.C_drew ?_))); (case side2 => exact HC135.out); (case side3 => exact (by (with_reducible repeat (first | refine blk_drewN ?_ _ | refine blk_drew ?_ | refine blk_alloc ?_ _)); exact BK127.out)); rintro e w65 ⟨rfl, hb⟩; refine ⟨_, rfl, ?_⟩; have n0_ := Aside0.mk (blk_below (g := gb117) (o := .cells #[.int .i64 a0_0, .int .i64 a0_1, .int .i64 a0_2, .int .i64 a0_3, .slice (some ad126) l0_4.length c0_4] 45 (0, 0)) (by (with_reducible repeat (first | refine blk_drewN ?_ _ | refine blk_drew ?_ | refine blk_alloc ?_ _)); exact BK117.out) hb); have n1_ := Aside0.mk (blk_below (g := gb127) (o := .cells #[.int .i64 ((rd_T42 l0_4 x50_2).f0), .int .i64 ((rd_T42 l0_4 x50_2).f1), .int .i64 ((rd_T42 l0_4 x50_2).f2), .int .i64 ((rd_T42 l0_4 x50_2).f3)] 42 (0, 0)) (by (with_reducible repeat (first | refine blk_drewN ?_ _ | refine blk_drew ?_ | refine blk_alloc ?_ _)); exact BK127.out) hb); have n2_ := Aside0.mk (below_step (by repeat (first | (with_reducible first | exact HB.out | apply below_alloc | apply pw_below_drewN | apply below_drew1 | refine below_set ?_ GE117.out | refine below_set ?_ GE127.out) | exact HB.out)) hb); clear BK117; clear BK127; clear HB; have BK117 := n0_; have BK127 := n1_; have HB := n2_; clear n0_ n1_ n2_; (try clear hb); (try clear hb2); (try clear hk); (try clear hi)))
                              go_ret
                              exact ⟨by first | rfl | (simp [errW_none, errW_some] <;> rfl) | (simp [*, errW_none, errW_some] <;> rfl), by repeat (first | (with_reducible first | exact HB.out | apply below_alloc | apply pw_below_drewN | apply below_drew1 | refine below_set ?_ GE117.out | refine below_set ?_ GE127.out) | exact HB.out)⟩
                            · replace c61 := Bool.eq_false_iff.mpr c61
                              subst c61
                              have H1 : (impl_FrameOk.l0 kj37 (wrap64 (x3_2 + (wrap64 (((rd_T42 l0_4 x50_2).f1) * ((rd_T42 l0_4 x50_2).f2))))) l0_4 (l0_4.length : Int) (wrap64 (x50_2 + 1)) a0_0 a0_1 a0_2 a0_3 l0_4) = some r := by rw [if_neg (show ¬ (false = true) by decide)] at H; exact H
                              clear H
                              have H := H1
                              clear H1
                              have H' := Aside0.mk H
                              clear H
                              have hnb66 := NB117_127.out
                              have hnc66 := NB127_117.out
                              have hcz67_0 : wc.cell? ⟨gb117, 0, none⟩ = some (.int .i64 a0_0) := (blk_cell BK117.out 0).trans rfl
                              have hcz67_1 : wc.cell? ⟨gb117, 1, none⟩ = some (.int .i64 a0_1) := (blk_cell BK117.out 1).trans rfl
                              have hcz67_2 : wc.cell? ⟨gb117, 2, none⟩ = some (.int .i64 a0_2) := (blk_cell BK117.out 2).trans rfl
                              have hcz67_3 : wc.cell? ⟨gb117, 3, none⟩ = some (.int .i64 a0_3) := (blk_cell BK117.out 3).trans rfl
                              have hcz67_4 : wc.cell? ⟨gb117, 4, none⟩ = some (.slice (some ad126) l0_4.length c0_4) := (blk_cell BK117.out 4).trans rfl
                              have hfz67_0 := blk_frozen BK117.out 0
                              have hfz67_1 := blk_frozen BK117.out 1
                              have hfz67_2 := blk_frozen BK117.out 2
                              have hfz67_3 := blk_frozen BK117.out 3
                              have hfz67_4 := blk_frozen BK117.out 4
                              have q68 : (x50_2 : Int) ≤ ((l0_4.length : Int) : Int) := of_decide_eq_true (by first | (with_reducible assumption) | assumption)
                              obtain ⟨i068, hi068, _, hsz68, _⟩ := info_parts info42
                              have hroom68 : l0_4.length ≤ c0_4 := HC0_4.out
                              have hC68 : Kd.C k42 _ (some ad126) l0_4.length l0_4 := HR0_4.out
                              have hcut68 := cut_to (P := Try.prog) 43 42 .i64 Try.underlying43 hi068 (some ad126) l0_4.length c0_4 x50_2 (of_decide_eq_true (by first | (with_reducible assumption) | assumption)) q68 hroom68
                              have hr68 := Kd.C_take (m := (x50_2 : Int).toNat) hC68 (by omega)
                              have hy68 : y132.length = (x50_2 : Int).toNat := (by rw [Ny132.out, List.length_take]; omega)
                              rw [← Ny132.out] at hr68
                              rw [← hy68] at hcut68
                              have HR135 := Aside0.mk hr68
                              have HC135 := Aside0.mk (show y132.length ≤ c0_4 from by omega)
                              clear hr68 hC68 hroom68 hi068 hsz68
                              have KY68 := Aside0.mk hy68
                              clear hy68
                              replace q68 := eq_true q68
                              go_wp2_with (first | ((with_reducible refine gate_callee (f := 124) rfl ?_); refine goesL_ (some 82) rfl rfl Try.func124 (by kernel_rfl) rfl #[.slice (some ad126) y132.length c0_4, .func (.func 125) #[] #[.pointer (some ⟨gb127, 0, none⟩)]] rfl (by (try simp only [List.map_toArray, List.map_cons, List.map_nil]); first | done | rfl | (simp only [List.length_drop, List.length_take]; rfl)) ?_; (with_reducible refine (impl_FrameOk_1.calls _ _ y132 gb127 ((rd_T42 l0_4 x50_2).f0) ((rd_T42 l0_4 x50_2).f1) ((rd_T42 l0_4 x50_2).f2) ((rd_T42 l0_4 x50_2).f3) false _ ?side1 ?side2 ?side3 A60.out).mono ?_); (case side1 => repeat (first | exact (Kd.C_below HR135.out HB.out) | (with_reducible refine Kd.C_alloc ?_ _) | (with_reducible refine Kd.C_drewN ?_ _) | (with_reducible refine Kd.C_drew ?_))); (case side2 => exact HC135.out); (case side3 => exact (by (with_reducible repeat (first | refine blk_drewN ?_ _ | refine blk_drew ?_ | refine blk_alloc ?_ _)); exact BK127.out)); rintro e w69 ⟨rfl, hb⟩; refine ⟨_, rfl, ?_⟩; have n0_ := Aside0.mk (blk_below (g := gb117) (o := .cells #[.int .i64 a0_0, .int .i64 a0_1, .int .i64 a0_2, .int .i64 a0_3, .slice (some ad126) l0_4.length c0_4] 45 (0, 0)) (by (with_reducible repeat (first | refine blk_drewN ?_ _ | refine blk_drew ?_ | refine blk_alloc ?_ _)); exact BK117.out) hb); have n1_ := Aside0.mk (blk_below (g := gb127) (o := .cells #[.int .i64 ((rd_T42 l0_4 x50_2).f0), .int .i64 ((rd_T42 l0_4 x50_2).f1), .int .i64 ((rd_T42 l0_4 x50_2).f2), .int .i64 ((rd_T42 l0_4 x50_2).f3)] 42 (0, 0)) (by (with_reducible repeat (first | refine blk_drewN ?_ _ | refine blk_drew ?_ | refine blk_alloc ?_ _)); exact BK127.out) hb); have n2_ := Aside0.mk (below_step (by repeat (first | (with_reducible first | exact HB.out | apply below_alloc | apply pw_below_drewN | apply below_drew1 | refine below_set ?_ GE117.out | refine below_set ?_ GE127.out) | exact HB.out)) hb); clear BK117; clear BK127; clear HB; have BK117 := n0_; have BK127 := n1_; have HB := n2_; clear n0_ n1_ n2_; (try clear hb); (try clear hb2); (try clear hk); (try clear hi); have hcz70_0 : w69.cell? ⟨gb127, 0, none⟩ = some (.int .i64 ((rd_T42 l0_4 x50_2).f0)) := (blk_cell BK127.out 0).trans rfl; have hcz70_1 : w69.cell? ⟨gb127, 1, none⟩ = some (.int .i64 ((rd_T42 l0_4 x50_2).f1)) := (blk_cell BK127.out 1).trans rfl; have hcz70_2 : w69.cell? ⟨gb127, 2, none⟩ = some (.int .i64 ((rd_T42 l0_4 x50_2).f2)) := (blk_cell BK127.out 2).trans rfl; have hcz70_3 : w69.cell? ⟨gb127, 3, none⟩ = some (.int .i64 ((rd_T42 l0_4 x50_2).f3)) := (blk_cell BK127.out 3).trans rfl; have hfz70_0 := blk_frozen BK127.out 0; have hfz70_1 := blk_frozen BK127.out 1; have hfz70_2 := blk_frozen BK127.out 2; have hfz70_3 := blk_frozen BK127.out 3))
                              go_roundg kj37
                              case measure => have := HJ1.out; have := HK2.out; have := HJ37.out; omega
                              case rel => exact ⟨(wrap64 (x3_2 + (wrap64 (((rd_T42 l0_4 x50_2).f1) * ((rd_T42 l0_4 x50_2).f2))))), (wrap64 (x50_2 + 1)), (by first | rfl | (simp; done) | (simp [*]; done)), (by first | rfl | (simp; done) | (simp [*]; done)), H', ⟨by have := HJ1.out; have := HK2.out; have := HJ37.out; omega⟩, ⟨by (with_reducible repeat (first | refine blk_drewN ?_ _ | refine blk_drew ?_ | refine blk_alloc ?_ _)); exact BK117.out⟩, ⟨by repeat (first | (with_reducible first | exact HB.out | apply below_alloc | apply pw_below_drewN | apply below_drew1 | refine below_set ?_ GE117.out | refine below_set ?_ GE127.out) | exact HB.out)⟩⟩
                          · rw [if_neg c59] at H
                            exact absurd H (by simp)
                        · rw [if_neg c58] at H
                          exact absurd H (by simp)
                · rw [if_neg c37] at H
                  exact absurd H (by simp)
              · rw [if_neg c36] at H
                exact absurd H (by simp)
            · rw [if_neg c35] at H
              have c35b0 : decide (x50_2 < (l0_4.length : Int)) = false := decide_eq_false c35
              clear c35
              obtain rfl := Option.some.inj H
              go_wp2
              go_ret
              exact ⟨by first | rfl | (simp [errW_none, errW_some] <;> rfl) | (simp [*, errW_none, errW_some] <;> rfl), by repeat (first | (with_reducible first | exact HB.out | apply below_alloc | apply pw_below_drewN | apply below_drew1 | refine below_set ?_ GE117.out) | exact HB.out)⟩

end Go.Proofs.Ythajjjpblkhmmaa.CW
