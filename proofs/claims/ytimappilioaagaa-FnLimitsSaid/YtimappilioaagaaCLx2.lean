/- Functions that a law of this seat reaches: written by a program of this session (wip/xprint.py), and by hand. -/
import Derived.Test.YtimappilioaagaaCLx0
import Derived.Test.YtimappilioaagaaCLx1
namespace Go.Proofs.Ytimappilioaagaa.CL
open Go.RowKit Go.Proofs.Ytimappilioaagaa.B Go.Proofs.YtimappilioaagaaW.PrintWords Go.Proofs.YtimappilioaagaaW.PrintLast Go.Proofs.YtimappilioaagaaW.PrintMore
attribute [local go_sem] max2_int min2_int max_two min_two max_three min_three max_four min_four   -- for this text's walks alone
set_option linter.unusedVariables false
set_option linter.unusedSimpArgs false

/-! ### impl_SegsOk: function 37 -/
mutual
def impl_SegsOk.l0 : Nat → List (S61) → List (S61) → Int → Int → Option (Bool)
  | 0, _, _, _, _ => none
  | k + 1, x0, x8, x9, x10 => if x10 < x9 then (if 0 ≤ x10 then (if x10 < (x8.length : Int) then ((impl_within.f ((rd_T61 x8 x10).f0) 0 247).bind fun t111 => (if t111 = true then (impl_SegsOk.j1 k x0 x10 x8 x9 x10 (decide ((((rd_T61 x8 x10).f1).length : Int) > 20000)) ((rd_T61 x8 x10).f0) ((rd_T61 x8 x10).f1)) else (impl_SegsOk.j1 k x0 x10 x8 x9 x10 true ((rd_T61 x8 x10).f0) ((rd_T61 x8 x10).f1)))) else (none)) else (none)) else (some true)
def impl_SegsOk.j1 : Nat → List (S61) → Int → List (S61) → Int → Int → Bool → Int → List Int → Option (Bool)
  | 0, _, _, _, _, _, _, _, _ => none
  | k + 1, x0, x3, x8, x9, x10, x15, x111000, x111001 => if x15 = true then (some false) else (if x111000 = 0 then (if (x111001.length : Int) = 0 then (impl_SegsOk.j2 k x0 x3 x8 x9 x10 true x111000 x111001) else (if 0 ≤ x3 then (if x3 ≤ (x0.length : Int) then ((impl_mayRun.f (x0.take (x3 : Int).toNat)).bind fun t116 => (impl_SegsOk.j2 k x0 x3 x8 x9 x10 (!t116) x111000 x111001)) else (none)) else (none))) else (impl_SegsOk.j2 k x0 x3 x8 x9 x10 false x111000 x111001))
def impl_SegsOk.j2 : Nat → List (S61) → Int → List (S61) → Int → Int → Bool → Int → List Int → Option (Bool)
  | 0, _, _, _, _, _, _, _, _ => none
  | k + 1, x0, x3, x8, x9, x10, x26, x111000, x111001 => if x26 = true then (some false) else ((impl_isRestart.f x111000).bind fun t117 => (if t117 = true then (if (x111001.length : Int) > 0 then (some false) else (if 0 ≤ x3 then (if x3 ≤ (x0.length : Int) then ((impl_mayRestart.f (x0.take (x3 : Int).toNat)).bind fun t122 => (if t122 = true then (impl_SegsOk.l0 k x0 x8 x9 (wrap64 (x10 + 1))) else (some false))) else (none)) else (none))) else (impl_SegsOk.l0 k x0 x8 x9 (wrap64 (x10 + 1)))))
end
def impl_SegsOk.f (k : Nat) (l0 : List (S61)) : Option (Bool) := if (l0.length : Int) > 300 then (some false) else (impl_SegsOk.l0 k l0 l0 (l0.length : Int) 0)
theorem impl_SegsOk.mono_l : ∀ k, (∀ y0 y1 y2 y3, LeO (impl_SegsOk.l0 k y0 y1 y2 y3) (impl_SegsOk.l0 (k + 1) y0 y1 y2 y3)) ∧ (∀ y0 y1 y2 y3 y4 y5 y6 y7, LeO (impl_SegsOk.j1 k y0 y1 y2 y3 y4 y5 y6 y7) (impl_SegsOk.j1 (k + 1) y0 y1 y2 y3 y4 y5 y6 y7)) ∧ (∀ y0 y1 y2 y3 y4 y5 y6 y7, LeO (impl_SegsOk.j2 k y0 y1 y2 y3 y4 y5 y6 y7) (impl_SegsOk.j2 (k + 1) y0 y1 y2 y3 y4 y5 y6 y7))
  | 0 => ⟨fun _ _ _ _ r h => by simp [impl_SegsOk.l0] at h, fun _ _ _ _ _ _ _ _ r h => by simp [impl_SegsOk.j1] at h, fun _ _ _ _ _ _ _ _ r h => by simp [impl_SegsOk.j2] at h⟩
  | k + 1 => by
    obtain ⟨ih0, ih1, ih2⟩ := impl_SegsOk.mono_l k
    refine ⟨?_, ?_, ?_⟩
    · intro y0 y1 y2 y3
      unfold impl_SegsOk.l0
      repeat' first
      | (with_reducible exact ih0 _ _ _ _)
      | (with_reducible exact ih1 _ _ _ _ _ _ _ _)
      | (with_reducible exact ih2 _ _ _ _ _ _ _ _)
      | (with_reducible exact LeO.refl _)
      | (with_reducible exact LeO.none _)
      | (with_reducible refine LeO.ite ?_ ?_)
      | (with_reducible refine LeO.bind ?_ (fun _ => ?_))
      | exact ih0 _ _ _ _
      | exact ih1 _ _ _ _ _ _ _ _
      | exact ih2 _ _ _ _ _ _ _ _
      | exact LeO.none _
      | refine LeO.ite ?_ ?_
      | refine LeO.bind ?_ (fun _ => ?_)
    · intro y0 y1 y2 y3 y4 y5 y6 y7
      unfold impl_SegsOk.j1
      repeat' first
      | (with_reducible exact ih0 _ _ _ _)
      | (with_reducible exact ih1 _ _ _ _ _ _ _ _)
      | (with_reducible exact ih2 _ _ _ _ _ _ _ _)
      | (with_reducible exact LeO.refl _)
      | (with_reducible exact LeO.none _)
      | (with_reducible refine LeO.ite ?_ ?_)
      | (with_reducible refine LeO.bind ?_ (fun _ => ?_))
      | exact ih0 _ _ _ _
      | exact ih1 _ _ _ _ _ _ _ _
      | exact ih2 _ _ _ _ _ _ _ _
      | exact LeO.none _
      | refine LeO.ite ?_ ?_
      | refine LeO.bind ?_ (fun _ => ?_)
    · intro y0 y1 y2 y3 y4 y5 y6 y7
      unfold impl_SegsOk.j2
      repeat' first
      | (with_reducible exact ih0 _ _ _ _)
      | (with_reducible exact ih1 _ _ _ _ _ _ _ _)
      | (with_reducible exact ih2 _ _ _ _ _ _ _ _)
      | (with_reducible exact LeO.refl _)
      | (with_reducible exact LeO.none _)
      | (with_reducible refine LeO.ite ?_ ?_)
      | (with_reducible refine LeO.bind ?_ (fun _ => ?_))
      | exact ih0 _ _ _ _
      | exact ih1 _ _ _ _ _ _ _ _
      | exact ih2 _ _ _ _ _ _ _ _
      | exact LeO.none _
      | refine LeO.ite ?_ ?_
      | refine LeO.bind ?_ (fun _ => ?_)
theorem impl_SegsOk.mono : ∀ a0 k, LeO (impl_SegsOk.f k a0) (impl_SegsOk.f (k + 1) a0) := by
  intro a0 k
  obtain ⟨ih0, ih1, ih2⟩ := impl_SegsOk.mono_l k
  unfold impl_SegsOk.f
  repeat' first
      | (with_reducible exact ih0 _ _ _ _)
      | (with_reducible exact ih1 _ _ _ _ _ _ _ _)
      | (with_reducible exact ih2 _ _ _ _ _ _ _ _)
      | (with_reducible exact LeO.refl _)
      | (with_reducible exact LeO.none _)
      | (with_reducible refine LeO.ite ?_ ?_)
      | (with_reducible refine LeO.bind ?_ (fun _ => ?_))
      | exact ih0 _ _ _ _
      | exact ih1 _ _ _ _ _ _ _ _
      | exact ih2 _ _ _ _ _ _ _ _
      | exact LeO.none _
      | refine LeO.ite ?_ ?_
      | refine LeO.bind ?_ (fun _ => ?_)
set_option maxHeartbeats 8000000 in
set_option maxRecDepth 100000 in
theorem impl_SegsOk.calls (k : Nat) (A0 : Option Addr) (c0 : Nat) (l0 : List (S61)) (r : Bool) (w : World) (hr0 : Kd.C k61 w A0 l0.length l0) (hc0 : l0.length ≤ c0) (h : impl_SegsOk.f k l0 = some r) :
    Calls Try.prog 37 #[.slice A0 l0.length c0] w fun e w' => e = .returned (.bool r) ∧ Below w.heap.size w w' := by
  have hu61 := Try.underlying61
  have HR0 := Aside0.mk hr0
  have HC0 := Aside0.mk hc0
  clear hr0 hc0
  have HB := Aside0.mk (Below.refl w.heap.size w)
  have H : (if (l0.length : Int) > 300 then (some false) else (impl_SegsOk.l0 k l0 l0 (l0.length : Int) 0)) = some r := h
  clear h
  by_cases c2 : (l0.length : Int) > 300
  · rw [if_pos c2] at H
    have c2b0 : decide (300 < (l0.length : Int)) = true := decide_eq_true c2
    have c2b1 : decide (300 < l0.length) = true := decide_eq_true (by omega)
    clear c2
    obtain rfl := Option.some.inj H
    go_enter Try.func37, Try.ntmps37
    go_wp2
    go_ret
    exact ⟨by first | rfl | (simp [errW_none, errW_some] <;> rfl) | (simp [*, errW_none, errW_some] <;> rfl), by repeat (first | (with_reducible first | exact HB.out | apply below_alloc | apply pw_below_drewN | apply below_drew1) | exact HB.out)⟩
  · rw [if_neg c2] at H
    have c2b0 : decide (300 < (l0.length : Int)) = false := decide_eq_false c2
    have c2b1 : decide (300 < l0.length) = false := decide_eq_false (by omega)
    clear c2
    have H' := Aside0.mk H
    clear H
    go_enter Try.func37, Try.ntmps37
    go_wp2
    go_loopg [10] k (fun kq v10 w' => ∃ (x10_1 : Int), v10 = .int .i64 x10_1 ∧ Aside0 (impl_SegsOk.l0 kq l0 l0 (l0.length : Int) x10_1 = some r) ∧ Aside0 (kq ≤ k) ∧ Aside0 (Below w.heap.size w w'))
    case atStart => exact ⟨(0), (by first | rfl | (simp; done) | (simp [*]; done)), H', ⟨Nat.le_refl _⟩, ⟨by repeat (first | (with_reducible first | exact HB.out | apply below_alloc | apply pw_below_drewN | apply below_drew1) | exact HB.out)⟩⟩
    case round =>
      clear H'
      try clear c2
      try clear c2b0
      try clear c2b1
      try clear p2
      obtain ⟨x10_1, rfl, HA, HK1, HB⟩ := hrel
      cases gk with
      | zero => exact absurd HA.out (by simp [impl_SegsOk.l0])
      | succ k1 =>
        have H := HA.out
        clear HA
        simp only [impl_SegsOk.l0] at H
        by_cases c3 : x10_1 < (l0.length : Int)
        · rw [if_pos c3] at H
          have c3b0 : decide (x10_1 < (l0.length : Int)) = true := decide_eq_true c3
          clear c3
          by_cases c4 : 0 ≤ x10_1
          · rw [if_pos c4] at H
            have c4b0 : decide (0 ≤ x10_1) = true := decide_eq_true c4
            clear c4
            by_cases c5 : x10_1 < (l0.length : Int)
            · rw [if_pos c5] at H
              have c5b0 : decide (x10_1 < (l0.length : Int)) = true := decide_eq_true c5
              clear c5
              have HC6 := Aside0.mk H
              clear H
              have p109 : 0 ≤ (x10_1 : Int) := of_decide_eq_true (by first | (with_reducible assumption) | assumption)
              have q109 : x10_1 < (l0.length : Int) := of_decide_eq_true (by first | (with_reducible assumption) | assumption)
              obtain ⟨ad109, A109_1, c109_1, e109, hx109_0, hx109_1, hl109_1, hi109_1⟩ := at_T61 HR0.out x10_1 p109 q109
              cases e109
              replace hx109_0 := (HB.out.cell (World.block_lt_of_cell? w _ hx109_0)).trans hx109_0
              replace hx109_1 := (HB.out.cell (World.block_lt_of_cell? w _ hx109_1)).trans hx109_1
              have HR109_1 := Aside0.mk hi109_1
              have HC109_1 := Aside0.mk hl109_1
              clear hi109_1 hl109_1
              replace p109 := eq_true p109
              replace q109 := eq_true q109
              go_upto_region 6 with (first | ((with_reducible refine gate_dst (N := 4) rfl ?_); (try (refine gate_guard (by rfl) ?_; dsimp only)); refine box_event ?hg (N := 4) ?hd (cs := #[.int .i64 0, .slice none 0 0]) (t := 61) ?hr ?_; (case hd => rfl); (case hg => rfl); (case hr => first | (go_simp; done) | (go_simp; rfl)); intro gb110 hg w7 hbox hb; have n0_ := Aside0.mk (below_step (by repeat (first | (with_reducible first | exact HB.out | apply below_alloc | apply pw_below_drewN | apply below_drew1) | exact HB.out)) hb); have n1_ := Aside0.mk (hbox); have n2_ := Aside0.mk ((by rw [hg]; exact (below_size (by repeat (first | (with_reducible first | exact HB.out | apply below_alloc | apply pw_below_drewN | apply below_drew1) | exact HB.out))) : w.heap.size ≤ gb110)); have n3_ := Aside0.mk ((by rw [hg]; exact (below_size (by repeat (first | (with_reducible first | exact HB.out | apply below_alloc | apply pw_below_drewN | apply below_drew1) | exact HB.out))) : w.heap.size ≤ gb110)); clear HB; have HB := n0_; have BK110 := n1_; have GW110 := n2_; have GE110 := n3_; clear n0_ n1_ n2_ n3_; clear hb hbox hg; have hcz8_0 : w7.cell? ⟨gb110, 0, none⟩ = some (.int .i64 0) := (blk_cell BK110.out 0).trans rfl; have hcz8_1 : w7.cell? ⟨gb110, 1, none⟩ = some (.slice none 0 0) := (blk_cell BK110.out 1).trans rfl; have hfz8_0 := blk_frozen BK110.out 0; have hfz8_1 := blk_frozen BK110.out 1))
              (try simp only [Act.put, List.setIfInBounds_toArray, List.set_cons_zero, List.set_cons_succ])
              go_cut [15] (fun v15 wc => ∃ (kq : Nat) (x15_5 : Bool), v15 = .bool x15_5 ∧ Aside0 (impl_SegsOk.j1 kq l0 x10_1 l0 (l0.length : Int) x10_1 x15_5 ((rd_T61 l0 x10_1).f0) ((rd_T61 l0 x10_1).f1) = some r) ∧ Aside0 (kq ≤ k1) ∧ Aside0 (wc.heap[gb110]? = some (.cells #[.int .i64 ((rd_T61 l0 x10_1).f0), (.slice A109_1 ((rd_T61 l0 x10_1).f1).length c109_1)] 61 (0, 0))) ∧ Aside0 (Below w.heap.size w wc))
              case first =>
                have H := HC6.out
                clear HC6
                replace H := Option.bind_eq_some_iff.mp H
                obtain ⟨t111, A90, H⟩ := H
                replace H : (if t111 = true then (impl_SegsOk.j1 k1 l0 x10_1 l0 (l0.length : Int) x10_1 (decide ((((rd_T61 l0 x10_1).f1).length : Int) > 20000)) ((rd_T61 l0 x10_1).f0) ((rd_T61 l0 x10_1).f1)) else (impl_SegsOk.j1 k1 l0 x10_1 l0 (l0.length : Int) x10_1 true ((rd_T61 l0 x10_1).f0) ((rd_T61 l0 x10_1).f1))) = some r := H
                have A9 := Aside0.mk A90
                clear A90
                by_cases c10 : t111 = true
                · subst c10
                  have H1 : (impl_SegsOk.j1 k1 l0 x10_1 l0 (l0.length : Int) x10_1 (decide ((((rd_T61 l0 x10_1).f1).length : Int) > 20000)) ((rd_T61 l0 x10_1).f0) ((rd_T61 l0 x10_1).f1)) = some r := by rw [if_pos rfl] at H; exact H
                  clear H
                  have H := H1
                  clear H1
                  have H' := Aside0.mk H
                  clear H
                  have hcz11_0 : w7.cell? ⟨gb110, 0, none⟩ = some (.int .i64 0) := (blk_cell BK110.out 0).trans rfl
                  have hcz11_1 : w7.cell? ⟨gb110, 1, none⟩ = some (.slice none 0 0) := (blk_cell BK110.out 1).trans rfl
                  have hfz11_0 := blk_frozen BK110.out 0
                  have hfz11_1 := blk_frozen BK110.out 1
                  go_wp2_with (first | ((with_reducible refine gate_callee (f := 70) rfl ?_); refine goesL_ (some 18) rfl rfl Try.func70 (by kernel_rfl) rfl #[.int .i64 ((rd_T61 l0 x10_1).f0), .int .i64 0, .int .i64 247] rfl (by (try simp only [List.map_toArray, List.map_cons, List.map_nil]); first | done | rfl | (simp only [List.length_drop, List.length_take]; rfl)) ?_; (with_reducible refine (impl_within.calls ((rd_T61 l0 x10_1).f0) 0 247 true _ A9.out).mono ?_); rintro e w' ⟨rfl, ⟨nd, rfl⟩⟩; refine ⟨_, rfl, ?_⟩))
                  go_meet
                  case rel => exact ⟨_, (decide ((((rd_T61 l0 x10_1).f1).length : Int) > 20000)), (by first | rfl | (simp; done) | (simp [*]; done)), H', ⟨by have := HK1.out; first | omega | exact Nat.le_refl _⟩, ⟨by (with_reducible repeat (first | refine blk_drewN ?_ _ | refine blk_drew ?_ | refine blk_alloc ?_ _)); refine blk_put (cs := #[.int .i64 ((rd_T61 l0 x10_1).f0), .slice none 0 0]) ?_ 1 _ rfl; (with_reducible repeat (first | refine blk_drewN ?_ _ | refine blk_drew ?_ | refine blk_alloc ?_ _)); refine blk_put (cs := #[.int .i64 0, .slice none 0 0]) ?_ 0 _ rfl; (with_reducible repeat (first | refine blk_drewN ?_ _ | refine blk_drew ?_ | refine blk_alloc ?_ _)); exact BK110.out⟩, ⟨by repeat (first | (with_reducible first | exact HB.out | apply below_alloc | apply pw_below_drewN | apply below_drew1 | refine below_set ?_ GE110.out) | exact HB.out)⟩⟩
                · replace c10 := Bool.eq_false_iff.mpr c10
                  subst c10
                  have H1 : (impl_SegsOk.j1 k1 l0 x10_1 l0 (l0.length : Int) x10_1 true ((rd_T61 l0 x10_1).f0) ((rd_T61 l0 x10_1).f1)) = some r := by rw [if_neg (show ¬ (false = true) by decide)] at H; exact H
                  clear H
                  have H := H1
                  clear H1
                  have H' := Aside0.mk H
                  clear H
                  have hcz12_0 : w7.cell? ⟨gb110, 0, none⟩ = some (.int .i64 0) := (blk_cell BK110.out 0).trans rfl
                  have hcz12_1 : w7.cell? ⟨gb110, 1, none⟩ = some (.slice none 0 0) := (blk_cell BK110.out 1).trans rfl
                  have hfz12_0 := blk_frozen BK110.out 0
                  have hfz12_1 := blk_frozen BK110.out 1
                  go_wp2_with (first | ((with_reducible refine gate_callee (f := 70) rfl ?_); refine goesL_ (some 18) rfl rfl Try.func70 (by kernel_rfl) rfl #[.int .i64 ((rd_T61 l0 x10_1).f0), .int .i64 0, .int .i64 247] rfl (by (try simp only [List.map_toArray, List.map_cons, List.map_nil]); first | done | rfl | (simp only [List.length_drop, List.length_take]; rfl)) ?_; (with_reducible refine (impl_within.calls ((rd_T61 l0 x10_1).f0) 0 247 false _ A9.out).mono ?_); rintro e w' ⟨rfl, ⟨nd, rfl⟩⟩; refine ⟨_, rfl, ?_⟩))
                  go_meet
                  case rel => exact ⟨_, (true), (by first | rfl | (simp; done) | (simp [*]; done)), H', ⟨by have := HK1.out; first | omega | exact Nat.le_refl _⟩, ⟨by (with_reducible repeat (first | refine blk_drewN ?_ _ | refine blk_drew ?_ | refine blk_alloc ?_ _)); refine blk_put (cs := #[.int .i64 ((rd_T61 l0 x10_1).f0), .slice none 0 0]) ?_ 1 _ rfl; (with_reducible repeat (first | refine blk_drewN ?_ _ | refine blk_drew ?_ | refine blk_alloc ?_ _)); refine blk_put (cs := #[.int .i64 0, .slice none 0 0]) ?_ 0 _ rfl; (with_reducible repeat (first | refine blk_drewN ?_ _ | refine blk_drew ?_ | refine blk_alloc ?_ _)); exact BK110.out⟩, ⟨by repeat (first | (with_reducible first | exact HB.out | apply below_alloc | apply pw_below_drewN | apply below_drew1 | refine below_set ?_ GE110.out) | exact HB.out)⟩⟩
              case rest =>
                clear HC6
                try clear c1
                try clear p1
                try clear q1
                try clear hx1
                try clear c2
                try clear c2b0
                try clear c2b1
                try clear p2
                try clear c3
                try clear c3b0
                try clear c4
                try clear c4b0
                try clear c5
                try clear c5b0
                try clear c7
                try clear c10
                try clear p10
                try clear q10
                try clear hx10
                try clear hcz11_0
                try clear hcz11_1
                try clear hcz12_0
                try clear hcz12_1
                try clear hcz8_0
                try clear hcz8_1
                try clear hfz11_0
                try clear hfz11_1
                try clear hfz12_0
                try clear hfz12_1
                try clear hfz8_0
                try clear hfz8_1
                try clear hx109_0
                try clear hx109_1
                try clear p109
                try clear p2
                try clear q109
                obtain ⟨kq, x15_5, rfl, HA, HJ5, BK110, HB⟩ := hcut
                cases kq with
                | zero => exact absurd HA.out (by simp [impl_SegsOk.j1])
                | succ kj5 =>
                  have H := HA.out
                  clear HA
                  simp only [impl_SegsOk.j1] at H
                  by_cases c13 : x15_5 = true
                  · subst c13
                    have H1 : (some false) = some r := by rw [if_pos rfl] at H; exact H
                    clear H
                    have H := H1
                    clear H1
                    obtain rfl := Option.some.inj H
                    go_wp2
                    go_ret
                    exact ⟨by first | rfl | (simp [errW_none, errW_some] <;> rfl) | (simp [*, errW_none, errW_some] <;> rfl), by repeat (first | (with_reducible first | exact HB.out | apply below_alloc | apply pw_below_drewN | apply below_drew1 | refine below_set ?_ GE110.out) | exact HB.out)⟩
                  · replace c13 := Bool.eq_false_iff.mpr c13
                    subst c13
                    have H1 : (if ((rd_T61 l0 x10_1).f0) = 0 then (if (((rd_T61 l0 x10_1).f1).length : Int) = 0 then (impl_SegsOk.j2 kj5 l0 x10_1 l0 (l0.length : Int) x10_1 true ((rd_T61 l0 x10_1).f0) ((rd_T61 l0 x10_1).f1)) else (if 0 ≤ x10_1 then (if x10_1 ≤ (l0.length : Int) then ((impl_mayRun.f (l0.take (x10_1 : Int).toNat)).bind fun t116 => (impl_SegsOk.j2 kj5 l0 x10_1 l0 (l0.length : Int) x10_1 (!t116) ((rd_T61 l0 x10_1).f0) ((rd_T61 l0 x10_1).f1))) else (none)) else (none))) else (impl_SegsOk.j2 kj5 l0 x10_1 l0 (l0.length : Int) x10_1 false ((rd_T61 l0 x10_1).f0) ((rd_T61 l0 x10_1).f1))) = some r := by rw [if_neg (show ¬ (false = true) by decide)] at H; exact H
                    clear H
                    have H := H1
                    clear H1
                    have HC14 := Aside0.mk H
                    clear H
                    go_upto_region 8 with (fail)
                    go_cut [26] (fun v26 wc => ∃ (kq : Nat) (x26_13 : Bool), v26 = .bool x26_13 ∧ Aside0 (impl_SegsOk.j2 kq l0 x10_1 l0 (l0.length : Int) x10_1 x26_13 ((rd_T61 l0 x10_1).f0) ((rd_T61 l0 x10_1).f1) = some r) ∧ Aside0 (kq ≤ kj5) ∧ Aside0 (wc.heap[gb110]? = some (.cells #[.int .i64 ((rd_T61 l0 x10_1).f0), (.slice A109_1 ((rd_T61 l0 x10_1).f1).length c109_1)] 61 (0, 0))) ∧ Aside0 (Below w.heap.size w wc))
                    case first =>
                      have H := HC14.out
                      clear HC14
                      by_cases c15 : ((rd_T61 l0 x10_1).f0) = 0
                      · rw [if_pos c15] at H
                        have c15b0 : (((rd_T61 l0 x10_1).f0) == 0) = true := beq_iff_eq.mpr c15
                        have c15b1 : (((rd_T61 l0 x10_1).f0) != 0) = false := bne_eq_false_iff_eq.mpr c15
                        clear c15
                        (first | rw [c15b0] | (simp only [i64_w, i32_w]; rw [c15b0]) | skip)
                        by_cases c16 : (((rd_T61 l0 x10_1).f1).length : Int) = 0
                        · rw [if_pos c16] at H
                          have c16b0 : ((((rd_T61 l0 x10_1).f1).length : Int) == 0) = true := beq_iff_eq.mpr c16
                          have c16b1 : ((((rd_T61 l0 x10_1).f1).length : Int) != 0) = false := bne_eq_false_iff_eq.mpr c16
                          clear c16
                          have H' := Aside0.mk H
                          clear H
                          have hcz17_0 : wc.cell? ⟨gb110, 0, none⟩ = some (.int .i64 ((rd_T61 l0 x10_1).f0)) := (blk_cell BK110.out 0).trans rfl
                          have hcz17_1 : wc.cell? ⟨gb110, 1, none⟩ = some (.slice A109_1 ((rd_T61 l0 x10_1).f1).length c109_1) := (blk_cell BK110.out 1).trans rfl
                          have hfz17_0 := blk_frozen BK110.out 0
                          have hfz17_1 := blk_frozen BK110.out 1
                          go_wp2
                          go_meet
                          case rel => exact ⟨_, (true), (by first | rfl | (simp; done) | (simp [*]; done)), H', ⟨by have := HK1.out; have := HJ5.out; first | omega | exact Nat.le_refl _⟩, ⟨by (with_reducible repeat (first | refine blk_drewN ?_ _ | refine blk_drew ?_ | refine blk_alloc ?_ _)); exact BK110.out⟩, ⟨by repeat (first | (with_reducible first | exact HB.out | apply below_alloc | apply pw_below_drewN | apply below_drew1 | refine below_set ?_ GE110.out) | exact HB.out)⟩⟩
                        · rw [if_neg c16] at H
                          have c16b0 : ((((rd_T61 l0 x10_1).f1).length : Int) == 0) = false := beq_eq_false_iff_ne.mpr c16
                          have c16b1 : ((((rd_T61 l0 x10_1).f1).length : Int) != 0) = true := bne_iff_ne.mpr c16
                          have c16b2 : ¬ (((rd_T61 l0 x10_1).f1) = []) := fun h_ => c16 (by rw [h_]; rfl)
                          by_cases c18 : 0 ≤ x10_1
                          · rw [if_pos c18] at H
                            have c18b0 := eq_true c18
                            have c18b1 : decide (0 ≤ x10_1) = true := decide_eq_true c18
                            clear c18
                            by_cases c19 : x10_1 ≤ (l0.length : Int)
                            · rw [if_pos c19] at H
                              have c19b0 := eq_true c19
                              have c19b1 : decide (x10_1 ≤ (l0.length : Int)) = true := decide_eq_true c19
                              clear c19
                              obtain ⟨y112, hy112⟩ : ∃ y_ : List (S61), y_ = (l0.take (x10_1 : Int).toNat) := ⟨_, rfl⟩
                              replace H : ((impl_mayRun.f y112).bind fun t116 => (impl_SegsOk.j2 kj5 l0 x10_1 l0 (l0.length : Int) x10_1 (!t116) ((rd_T61 l0 x10_1).f0) ((rd_T61 l0 x10_1).f1))) = some r := by first | (rw [hy112]; with_reducible exact H) | (have H2_ := (Option.bind_some _ _).symm.trans H; rw [hy112]; with_reducible exact H2_) | (have H2_ := (Option.bind_some _ _).symm.trans H; with_reducible exact H2_) | with_reducible exact H | (rw [hy112]; exact H) | exact H
                              have Ny112 := Aside0.mk hy112
                              clear hy112
                              replace H := Option.bind_eq_some_iff.mp H
                              obtain ⟨t116, A200, H⟩ := H
                              replace H : (impl_SegsOk.j2 kj5 l0 x10_1 l0 (l0.length : Int) x10_1 (!t116) ((rd_T61 l0 x10_1).f0) ((rd_T61 l0 x10_1).f1)) = some r := H
                              have A20 := Aside0.mk A200
                              clear A200
                              have H' := Aside0.mk H
                              clear H
                              have hcz21_0 : wc.cell? ⟨gb110, 0, none⟩ = some (.int .i64 ((rd_T61 l0 x10_1).f0)) := (blk_cell BK110.out 0).trans rfl
                              have hcz21_1 : wc.cell? ⟨gb110, 1, none⟩ = some (.slice A109_1 ((rd_T61 l0 x10_1).f1).length c109_1) := (blk_cell BK110.out 1).trans rfl
                              have hfz21_0 := blk_frozen BK110.out 0
                              have hfz21_1 := blk_frozen BK110.out 1
                              have q22 : (x10_1 : Int) ≤ ((l0.length : Int) : Int) := of_decide_eq_true (by first | (with_reducible assumption) | assumption)
                              obtain ⟨i022, hi022, _, hsz22, _⟩ := info_parts info61
                              have hroom22 : l0.length ≤ c0 := HC0.out
                              have hC22 : Kd.C k61 _ (some ad109) l0.length l0 := HR0.out
                              have hcut22 := cut_to (P := Try.prog) 59 61 .i64 Try.underlying59 hi022 (some ad109) l0.length c0 x10_1 (of_decide_eq_true (by first | (with_reducible assumption) | assumption)) q22 hroom22
                              have hr22 := Kd.C_take (m := (x10_1 : Int).toNat) hC22 (by omega)
                              have hy22 : y112.length = (x10_1 : Int).toNat := (by rw [Ny112.out, List.length_take]; omega)
                              rw [← Ny112.out] at hr22
                              rw [← hy22] at hcut22
                              have HR115 := Aside0.mk hr22
                              have HC115 := Aside0.mk (show y112.length ≤ c0 from by omega)
                              clear hr22 hC22 hroom22 hi022 hsz22
                              have KY22 := Aside0.mk hy22
                              clear hy22
                              replace q22 := eq_true q22
                              go_wp2_with (first | (go_at_call 80; (with_reducible refine (impl_mayRun.calls _ _ y112 t116 _ ?side1 ?side2 A20.out).mono ?_); (case side1 => repeat (first | exact (Kd.C_below HR115.out HB.out) | (with_reducible refine Kd.C_alloc ?_ _) | (with_reducible refine Kd.C_drewN ?_ _) | (with_reducible refine Kd.C_drew ?_))); (case side2 => exact HC115.out); rintro e w' ⟨rfl, ⟨nd, rfl⟩⟩))
                              go_meet
                              case rel => exact ⟨_, (!t116), (by first | rfl | (simp; done) | (simp [*]; done)), H', ⟨by have := HK1.out; have := HJ5.out; first | omega | exact Nat.le_refl _⟩, ⟨by (with_reducible repeat (first | refine blk_drewN ?_ _ | refine blk_drew ?_ | refine blk_alloc ?_ _)); exact BK110.out⟩, ⟨by repeat (first | (with_reducible first | exact HB.out | apply below_alloc | apply pw_below_drewN | apply below_drew1 | refine below_set ?_ GE110.out) | exact HB.out)⟩⟩
                            · rw [if_neg c19] at H
                              exact absurd H (by simp)
                          · rw [if_neg c18] at H
                            exact absurd H (by simp)
                      · rw [if_neg c15] at H
                        have c15b0 : (((rd_T61 l0 x10_1).f0) == 0) = false := beq_eq_false_iff_ne.mpr c15
                        have c15b1 : (((rd_T61 l0 x10_1).f0) != 0) = true := bne_iff_ne.mpr c15
                        (first | rw [c15b0] | (simp only [i64_w, i32_w]; rw [c15b0]) | skip)
                        have H' := Aside0.mk H
                        clear H
                        have hcz23_0 : wc.cell? ⟨gb110, 0, none⟩ = some (.int .i64 ((rd_T61 l0 x10_1).f0)) := (blk_cell BK110.out 0).trans rfl
                        have hcz23_1 : wc.cell? ⟨gb110, 1, none⟩ = some (.slice A109_1 ((rd_T61 l0 x10_1).f1).length c109_1) := (blk_cell BK110.out 1).trans rfl
                        have hfz23_0 := blk_frozen BK110.out 0
                        have hfz23_1 := blk_frozen BK110.out 1
                        go_wp2
                        go_meet
                        case rel => exact ⟨_, (false), (by first | rfl | (simp; done) | (simp [*]; done)), H', ⟨by have := HK1.out; have := HJ5.out; first | omega | exact Nat.le_refl _⟩, ⟨by (with_reducible repeat (first | refine blk_drewN ?_ _ | refine blk_drew ?_ | refine blk_alloc ?_ _)); exact BK110.out⟩, ⟨by repeat (first | (with_reducible first | exact HB.out | apply below_alloc | apply pw_below_drewN | apply below_drew1 | refine below_set ?_ GE110.out) | exact HB.out)⟩⟩
                    case rest =>
                      clear HC14
                      try clear c1
                      try clear p1
                      try clear q1
                      try clear hx1
                      try clear c2
                      try clear c2b0
                      try clear c2b1
                      try clear p2
                      try clear q2
                      try clear c3
                      try clear c3b0
                      try clear c4
                      try clear c4b0
                      try clear c5
                      try clear c5b0
                      try clear c7
                      try clear c10
                      try clear p10
                      try clear q10
                      try clear hx10
                      try clear c13
                      try clear c15
                      try clear c15b0
                      try clear c15b1
                      try clear c16
                      try clear c16b0
                      try clear c16b1
                      try clear c16b2
                      try clear c18
                      try clear c18b0
                      try clear c18b1
                      try clear c19
                      try clear c19b0
                      try clear c19b1
                      try clear q22
                      try clear hcz11_0
                      try clear hcz11_1
                      try clear hcz12_0
                      try clear hcz12_1
                      try clear hcz17_0
                      try clear hcz17_1
                      try clear hcz21_0
                      try clear hcz21_1
                      try clear hcz23_0
                      try clear hcz23_1
                      try clear hcz8_0
                      try clear hcz8_1
                      try clear hfz11_0
                      try clear hfz11_1
                      try clear hfz12_0
                      try clear hfz12_1
                      try clear hfz17_0
                      try clear hfz17_1
                      try clear hfz21_0
                      try clear hfz21_1
                      try clear hfz23_0
                      try clear hfz23_1
                      try clear hfz8_0
                      try clear hfz8_1
                      try clear hx109_0
                      try clear hx109_1
                      try clear p1
                      try clear p10
                      try clear p109
                      try clear p2
                      try clear q1
                      try clear q10
                      try clear q109
                      try clear q22
                      obtain ⟨kq, x26_13, rfl, HA, HJ13, BK110, HB⟩ := hcut
                      cases kq with
                      | zero => exact absurd HA.out (by simp [impl_SegsOk.j2])
                      | succ kj13 =>
                        have H := HA.out
                        clear HA
                        simp only [impl_SegsOk.j2] at H
                        by_cases c24 : x26_13 = true
                        · subst c24
                          have H1 : (some false) = some r := by rw [if_pos rfl] at H; exact H
                          clear H
                          have H := H1
                          clear H1
                          obtain rfl := Option.some.inj H
                          go_wp2
                          go_ret
                          exact ⟨by first | rfl | (simp [errW_none, errW_some] <;> rfl) | (simp [*, errW_none, errW_some] <;> rfl), by repeat (first | (with_reducible first | exact HB.out | apply below_alloc | apply pw_below_drewN | apply below_drew1 | refine below_set ?_ GE110.out) | exact HB.out)⟩
                        · replace c24 := Bool.eq_false_iff.mpr c24
                          subst c24
                          have H1 : ((impl_isRestart.f ((rd_T61 l0 x10_1).f0)).bind fun t117 => (if t117 = true then (if (((rd_T61 l0 x10_1).f1).length : Int) > 0 then (some false) else (if 0 ≤ x10_1 then (if x10_1 ≤ (l0.length : Int) then ((impl_mayRestart.f (l0.take (x10_1 : Int).toNat)).bind fun t122 => (if t122 = true then (impl_SegsOk.l0 kj13 l0 l0 (l0.length : Int) (wrap64 (x10_1 + 1))) else (some false))) else (none)) else (none))) else (impl_SegsOk.l0 kj13 l0 l0 (l0.length : Int) (wrap64 (x10_1 + 1))))) = some r := by rw [if_neg (show ¬ (false = true) by decide)] at H; exact H
                          clear H
                          have H := H1
                          clear H1
                          replace H := Option.bind_eq_some_iff.mp H
                          obtain ⟨t117, A250, H⟩ := H
                          replace H : (if t117 = true then (if (((rd_T61 l0 x10_1).f1).length : Int) > 0 then (some false) else (if 0 ≤ x10_1 then (if x10_1 ≤ (l0.length : Int) then ((impl_mayRestart.f (l0.take (x10_1 : Int).toNat)).bind fun t122 => (if t122 = true then (impl_SegsOk.l0 kj13 l0 l0 (l0.length : Int) (wrap64 (x10_1 + 1))) else (some false))) else (none)) else (none))) else (impl_SegsOk.l0 kj13 l0 l0 (l0.length : Int) (wrap64 (x10_1 + 1)))) = some r := H
                          have A25 := Aside0.mk A250
                          clear A250
                          by_cases c26 : t117 = true
                          · subst c26
                            have H1 : (if (((rd_T61 l0 x10_1).f1).length : Int) > 0 then (some false) else (if 0 ≤ x10_1 then (if x10_1 ≤ (l0.length : Int) then ((impl_mayRestart.f (l0.take (x10_1 : Int).toNat)).bind fun t122 => (if t122 = true then (impl_SegsOk.l0 kj13 l0 l0 (l0.length : Int) (wrap64 (x10_1 + 1))) else (some false))) else (none)) else (none))) = some r := by rw [if_pos rfl] at H; exact H
                            clear H
                            have H := H1
                            clear H1
                            by_cases c27 : (((rd_T61 l0 x10_1).f1).length : Int) > 0
                            · rw [if_pos c27] at H
                              have c27b0 : decide (0 < (((rd_T61 l0 x10_1).f1).length : Int)) = true := decide_eq_true c27
                              have c27b1 : decide (0 < ((rd_T61 l0 x10_1).f1).length) = true := decide_eq_true (by omega)
                              clear c27
                              obtain rfl := Option.some.inj H
                              have hcz28_0 : wc.cell? ⟨gb110, 0, none⟩ = some (.int .i64 ((rd_T61 l0 x10_1).f0)) := (blk_cell BK110.out 0).trans rfl
                              have hcz28_1 : wc.cell? ⟨gb110, 1, none⟩ = some (.slice A109_1 ((rd_T61 l0 x10_1).f1).length c109_1) := (blk_cell BK110.out 1).trans rfl
                              have hfz28_0 := blk_frozen BK110.out 0
                              have hfz28_1 := blk_frozen BK110.out 1
                              go_wp2_with (first | ((with_reducible refine gate_callee (f := 81) rfl ?_); refine goesL_ (some 46) rfl rfl Try.func81 (by kernel_rfl) rfl #[.int .i64 ((rd_T61 l0 x10_1).f0)] rfl (by (try simp only [List.map_toArray, List.map_cons, List.map_nil]); first | done | rfl | (simp only [List.length_drop, List.length_take]; rfl)) ?_; (with_reducible refine (impl_isRestart.calls ((rd_T61 l0 x10_1).f0) true _ A25.out).mono ?_); rintro e w' ⟨rfl, ⟨nd, rfl⟩⟩; refine ⟨_, rfl, ?_⟩))
                              go_ret
                              exact ⟨by first | rfl | (simp [errW_none, errW_some] <;> rfl) | (simp [*, errW_none, errW_some] <;> rfl), by repeat (first | (with_reducible first | exact HB.out | apply below_alloc | apply pw_below_drewN | apply below_drew1 | refine below_set ?_ GE110.out) | exact HB.out)⟩
                            · rw [if_neg c27] at H
                              have c27b0 : decide (0 < (((rd_T61 l0 x10_1).f1).length : Int)) = false := decide_eq_false c27
                              have c27b1 : decide (0 < ((rd_T61 l0 x10_1).f1).length) = false := decide_eq_false (by omega)
                              clear c27
                              by_cases c29 : 0 ≤ x10_1
                              · rw [if_pos c29] at H
                                have c29b0 := eq_true c29
                                have c29b1 : decide (0 ≤ x10_1) = true := decide_eq_true c29
                                clear c29
                                by_cases c30 : x10_1 ≤ (l0.length : Int)
                                · rw [if_pos c30] at H
                                  have c30b0 := eq_true c30
                                  have c30b1 : decide (x10_1 ≤ (l0.length : Int)) = true := decide_eq_true c30
                                  clear c30
                                  obtain ⟨y118, hy118⟩ : ∃ y_ : List (S61), y_ = (l0.take (x10_1 : Int).toNat) := ⟨_, rfl⟩
                                  replace H : ((impl_mayRestart.f y118).bind fun t122 => (if t122 = true then (impl_SegsOk.l0 kj13 l0 l0 (l0.length : Int) (wrap64 (x10_1 + 1))) else (some false))) = some r := by first | (rw [hy118]; with_reducible exact H) | (have H2_ := (Option.bind_some _ _).symm.trans H; rw [hy118]; with_reducible exact H2_) | (have H2_ := (Option.bind_some _ _).symm.trans H; with_reducible exact H2_) | with_reducible exact H | (rw [hy118]; exact H) | exact H
                                  have Ny118 := Aside0.mk hy118
                                  clear hy118
                                  replace H := Option.bind_eq_some_iff.mp H
                                  obtain ⟨t122, A310, H⟩ := H
                                  replace H : (if t122 = true then (impl_SegsOk.l0 kj13 l0 l0 (l0.length : Int) (wrap64 (x10_1 + 1))) else (some false)) = some r := H
                                  have A31 := Aside0.mk A310
                                  clear A310
                                  by_cases c32 : t122 = true
                                  · subst c32
                                    have H1 : (impl_SegsOk.l0 kj13 l0 l0 (l0.length : Int) (wrap64 (x10_1 + 1))) = some r := by rw [if_pos rfl] at H; exact H
                                    clear H
                                    have H := H1
                                    clear H1
                                    have H' := Aside0.mk H
                                    clear H
                                    have hcz33_0 : wc.cell? ⟨gb110, 0, none⟩ = some (.int .i64 ((rd_T61 l0 x10_1).f0)) := (blk_cell BK110.out 0).trans rfl
                                    have hcz33_1 : wc.cell? ⟨gb110, 1, none⟩ = some (.slice A109_1 ((rd_T61 l0 x10_1).f1).length c109_1) := (blk_cell BK110.out 1).trans rfl
                                    have hfz33_0 := blk_frozen BK110.out 0
                                    have hfz33_1 := blk_frozen BK110.out 1
                                    go_wp2_with (first | ((with_reducible refine gate_callee (f := 81) rfl ?_); refine goesL_ (some 46) rfl rfl Try.func81 (by kernel_rfl) rfl #[.int .i64 ((rd_T61 l0 x10_1).f0)] rfl (by (try simp only [List.map_toArray, List.map_cons, List.map_nil]); first | done | rfl | (simp only [List.length_drop, List.length_take]; rfl)) ?_; (with_reducible refine (impl_isRestart.calls ((rd_T61 l0 x10_1).f0) true _ A25.out).mono ?_); rintro e w' ⟨rfl, ⟨nd, rfl⟩⟩; refine ⟨_, rfl, ?_⟩; have q34 : (x10_1 : Int) ≤ ((l0.length : Int) : Int) := of_decide_eq_true (by first | (with_reducible assumption) | assumption); obtain ⟨i034, hi034, _, hsz34, _⟩ := info_parts info61; have hroom34 : l0.length ≤ c0 := HC0.out; have hC34 : Kd.C k61 _ (some ad109) l0.length l0 := HR0.out; have hcut34 := cut_to (P := Try.prog) 59 61 .i64 Try.underlying59 hi034 (some ad109) l0.length c0 x10_1 (of_decide_eq_true (by first | (with_reducible assumption) | assumption)) q34 hroom34; have hr34 := Kd.C_take (m := (x10_1 : Int).toNat) hC34 (by omega); have hy34 : y118.length = (x10_1 : Int).toNat := (by rw [Ny118.out, List.length_take]; omega); rw [← Ny118.out] at hr34; rw [← hy34] at hcut34; have HR121 := Aside0.mk hr34; have HC121 := Aside0.mk (show y118.length ≤ c0 from by omega); clear hr34 hC34 hroom34 hi034 hsz34; have KY34 := Aside0.mk hy34; clear hy34; replace q34 := eq_true q34) | (go_at_call 82; (with_reducible refine (impl_mayRestart.calls _ _ y118 true _ ?side1 ?side2 A31.out).mono ?_); (case side1 => repeat (first | exact (Kd.C_below HR121.out (by repeat (first | (with_reducible first | exact HB.out | apply below_alloc | apply pw_below_drewN | apply below_drew1 | refine below_set ?_ GE110.out) | exact HB.out))) | (with_reducible refine Kd.C_alloc ?_ _) | (with_reducible refine Kd.C_drewN ?_ _) | (with_reducible refine Kd.C_drew ?_))); (case side2 => exact HC121.out); rintro e w' ⟨rfl, ⟨nd, rfl⟩⟩))
                                    go_roundg kj13
                                    case measure => have := HK1.out; have := HJ5.out; have := HJ13.out; omega
                                    case rel => exact ⟨(wrap64 (x10_1 + 1)), (by first | rfl | (simp; done) | (simp [*]; done)), H', ⟨by have := HK1.out; have := HJ5.out; have := HJ13.out; omega⟩, ⟨by repeat (first | (with_reducible first | exact HB.out | apply below_alloc | apply pw_below_drewN | apply below_drew1 | refine below_set ?_ GE110.out) | exact HB.out)⟩⟩
                                  · replace c32 := Bool.eq_false_iff.mpr c32
                                    subst c32
                                    have H1 : (some false) = some r := by rw [if_neg (show ¬ (false = true) by decide)] at H; exact H
                                    clear H
                                    have H := H1
                                    clear H1
                                    obtain rfl := Option.some.inj H
                                    have hcz35_0 : wc.cell? ⟨gb110, 0, none⟩ = some (.int .i64 ((rd_T61 l0 x10_1).f0)) := (blk_cell BK110.out 0).trans rfl
                                    have hcz35_1 : wc.cell? ⟨gb110, 1, none⟩ = some (.slice A109_1 ((rd_T61 l0 x10_1).f1).length c109_1) := (blk_cell BK110.out 1).trans rfl
                                    have hfz35_0 := blk_frozen BK110.out 0
                                    have hfz35_1 := blk_frozen BK110.out 1
                                    go_wp2_with (first | ((with_reducible refine gate_callee (f := 81) rfl ?_); refine goesL_ (some 46) rfl rfl Try.func81 (by kernel_rfl) rfl #[.int .i64 ((rd_T61 l0 x10_1).f0)] rfl (by (try simp only [List.map_toArray, List.map_cons, List.map_nil]); first | done | rfl | (simp only [List.length_drop, List.length_take]; rfl)) ?_; (with_reducible refine (impl_isRestart.calls ((rd_T61 l0 x10_1).f0) true _ A25.out).mono ?_); rintro e w' ⟨rfl, ⟨nd, rfl⟩⟩; refine ⟨_, rfl, ?_⟩; have q36 : (x10_1 : Int) ≤ ((l0.length : Int) : Int) := of_decide_eq_true (by first | (with_reducible assumption) | assumption); obtain ⟨i036, hi036, _, hsz36, _⟩ := info_parts info61; have hroom36 : l0.length ≤ c0 := HC0.out; have hC36 : Kd.C k61 _ (some ad109) l0.length l0 := HR0.out; have hcut36 := cut_to (P := Try.prog) 59 61 .i64 Try.underlying59 hi036 (some ad109) l0.length c0 x10_1 (of_decide_eq_true (by first | (with_reducible assumption) | assumption)) q36 hroom36; have hr36 := Kd.C_take (m := (x10_1 : Int).toNat) hC36 (by omega); have hy36 : y118.length = (x10_1 : Int).toNat := (by rw [Ny118.out, List.length_take]; omega); rw [← Ny118.out] at hr36; rw [← hy36] at hcut36; have HR121 := Aside0.mk hr36; have HC121 := Aside0.mk (show y118.length ≤ c0 from by omega); clear hr36 hC36 hroom36 hi036 hsz36; have KY36 := Aside0.mk hy36; clear hy36; replace q36 := eq_true q36) | (go_at_call 82; (with_reducible refine (impl_mayRestart.calls _ _ y118 false _ ?side1 ?side2 A31.out).mono ?_); (case side1 => repeat (first | exact (Kd.C_below HR121.out (by repeat (first | (with_reducible first | exact HB.out | apply below_alloc | apply pw_below_drewN | apply below_drew1 | refine below_set ?_ GE110.out) | exact HB.out))) | (with_reducible refine Kd.C_alloc ?_ _) | (with_reducible refine Kd.C_drewN ?_ _) | (with_reducible refine Kd.C_drew ?_))); (case side2 => exact HC121.out); rintro e w' ⟨rfl, ⟨nd, rfl⟩⟩))
                                    go_ret
                                    exact ⟨by first | rfl | (simp [errW_none, errW_some] <;> rfl) | (simp [*, errW_none, errW_some] <;> rfl), by repeat (first | (with_reducible first | exact HB.out | apply below_alloc | apply pw_below_drewN | apply below_drew1 | refine below_set ?_ GE110.out) | exact HB.out)⟩
                                · rw [if_neg c30] at H
                                  exact absurd H (by simp)
                              · rw [if_neg c29] at H
                                exact absurd H (by simp)
                          · replace c26 := Bool.eq_false_iff.mpr c26
                            subst c26
                            have H1 : (impl_SegsOk.l0 kj13 l0 l0 (l0.length : Int) (wrap64 (x10_1 + 1))) = some r := by rw [if_neg (show ¬ (false = true) by decide)] at H; exact H
                            clear H
                            have H := H1
                            clear H1
                            have H' := Aside0.mk H
                            clear H
                            have hcz37_0 : wc.cell? ⟨gb110, 0, none⟩ = some (.int .i64 ((rd_T61 l0 x10_1).f0)) := (blk_cell BK110.out 0).trans rfl
                            have hcz37_1 : wc.cell? ⟨gb110, 1, none⟩ = some (.slice A109_1 ((rd_T61 l0 x10_1).f1).length c109_1) := (blk_cell BK110.out 1).trans rfl
                            have hfz37_0 := blk_frozen BK110.out 0
                            have hfz37_1 := blk_frozen BK110.out 1
                            go_wp2_with (first | ((with_reducible refine gate_callee (f := 81) rfl ?_); refine goesL_ (some 46) rfl rfl Try.func81 (by kernel_rfl) rfl #[.int .i64 ((rd_T61 l0 x10_1).f0)] rfl (by (try simp only [List.map_toArray, List.map_cons, List.map_nil]); first | done | rfl | (simp only [List.length_drop, List.length_take]; rfl)) ?_; (with_reducible refine (impl_isRestart.calls ((rd_T61 l0 x10_1).f0) false _ A25.out).mono ?_); rintro e w' ⟨rfl, ⟨nd, rfl⟩⟩; refine ⟨_, rfl, ?_⟩))
                            go_roundg kj13
                            case measure => have := HK1.out; have := HJ5.out; have := HJ13.out; omega
                            case rel => exact ⟨(wrap64 (x10_1 + 1)), (by first | rfl | (simp; done) | (simp [*]; done)), H', ⟨by have := HK1.out; have := HJ5.out; have := HJ13.out; omega⟩, ⟨by repeat (first | (with_reducible first | exact HB.out | apply below_alloc | apply pw_below_drewN | apply below_drew1 | refine below_set ?_ GE110.out) | exact HB.out)⟩⟩
            · rw [if_neg c5] at H
              exact absurd H (by simp)
          · rw [if_neg c4] at H
            exact absurd H (by simp)
        · rw [if_neg c3] at H
          have c3b0 : decide (x10_1 < (l0.length : Int)) = false := decide_eq_false c3
          clear c3
          obtain rfl := Option.some.inj H
          go_wp2
          go_ret
          exact ⟨by first | rfl | (simp [errW_none, errW_some] <;> rfl) | (simp [*, errW_none, errW_some] <;> rfl), by repeat (first | (with_reducible first | exact HB.out | apply below_alloc | apply pw_below_drewN | apply below_drew1) | exact HB.out)⟩

-- NOT PRINTED: function 105 (impl_Comp_105)

-- NOT PRINTED: function 83 (impl_Comp_83)

/-! ### impl_FrameOk_1: function 84 (by hand) -/
/-- Where the first element lies that a test takes; -1 if there is none. -/
def idxP {α : Type} (p : α → Bool) : List α → Nat → Int
  | [], _ => -1
  | x :: xs, i => if p x = true then (i : Int) else idxP p xs (i + 1)
theorem idxP_none {α : Type} (p : α → Bool) : ∀ (l : List α) (i : Nat), l.any p = false → idxP p l i = -1
  | [], _, _ => rfl
  | x :: xs, i, h => by
    rw [List.any_cons, Bool.or_eq_false_iff] at h
    rw [idxP, h.1, if_neg (by simp)]
    exact idxP_none p xs (i + 1) h.2
theorem idxP_nonneg {α : Type} (p : α → Bool) : ∀ (l : List α) (i : Nat), decide (0 ≤ idxP p l i) = l.any p
  | [], _ => rfl
  | x :: xs, i => by
    rw [idxP, List.any_cons]
    cases h : p x with
    | true => rw [if_pos rfl]; simp
    | false => rw [if_neg (by simp), Bool.false_or]; exact idxP_nonneg p xs (i + 1)
theorem idxP_at {α : Type} (p : α → Bool) : ∀ (l : List α) (i k : Nat) (hk : k < l.length), (∀ j (hj : j < l.length), j < k → p l[j] = false) → p l[k] = true → idxP p l i = ((i + k : Nat) : Int)
  | [], _, k, hk, _, _ => by simp at hk
  | x :: xs, i, 0, _, _, h => by
    have h2 : p x = true := h
    rw [idxP, if_pos h2]
    simp
  | x :: xs, i, k + 1, hk, h0, h => by
    have hx : p x = false := h0 0 (by simp) (by omega)
    rw [idxP, hx, if_neg (by simp)]
    have := idxP_at p xs (i + 1) k (by simpa using hk) (fun j hj hjk => h0 (j + 1) (by simpa using hj) (by omega)) h
    rw [this, show i + 1 + k = i + (k + 1) from by omega]
set_option maxHeartbeats 8000000 in
set_option maxRecDepth 100000 in
theorem indexFunc_Comp (cl : Nat) (lb : Array Value) (p : S65 → Bool) (A : Option Addr) (c : Nat) (l : List S65) (W : World) (hr : Kd.C k65 W A l.length l)
    (eg : ∀ args w, (callFunc cl args).run Try.prog w = .ok (.enter cl args) w)
    (hp : ∀ (W' : World) (x : S65), Below W.heap.size W W' → Calls Try.prog cl (#[.agg #[.int .i64 x.f0, .int .i64 x.f1, .int .i64 x.f2, .int .i64 x.f3]] ++ lb) W' fun e w' => e = .returned (.bool (p x)) ∧ Below W.heap.size W w') :
    Calls Try.prog 105 #[.slice A l.length c, .func (.func cl) #[] lb] W fun e w' => e = .returned (.int .i64 (idxP p l 0)) ∧ Below W.heap.size W w' := by
  have hmax := Kd.C_max hr
  have HR := Aside0.mk hr
  have HP := Aside0.mk hp
  clear hr hp
  have HB := Aside0.mk (Below.refl W.heap.size W)
  go_enter Try.func105, Try.ntmps105
  go_wp2
  go_loopg [5, 8] l.length (fun gg _ s8 wr => ∃ kk : Nat, kk ≤ l.length ∧ l.length - kk ≤ gg ∧ s8 = .int .i64 (kk : Int) ∧ Aside0 (Below W.heap.size W wr) ∧ Aside0 (∀ j (hj : j < l.length), j < kk → p l[j] = false))
  case atStart => exact ⟨0, Nat.zero_le _, by omega, rfl, HB, ⟨fun j _ hj => absurd hj (Nat.not_lt_zero _)⟩⟩
  case round =>
    clear HB
    obtain ⟨kk, hkk, hg, rfl, BW, AN⟩ := hrel
    by_cases hlt : kk < l.length
    · have hltz : (kk : Int) < (l.length : Int) := by omega
      have h0z : (0 : Int) ≤ (kk : Int) := by omega
      have d1 : decide ((kk : Int) < (l.length : Int)) = true := decide_eq_true hltz
      have d2 : decide ((0 : Int) ≤ (kk : Int)) = true := decide_eq_true h0z
      obtain ⟨ad, e1, hx0, hx1, hx2, hx3⟩ := at_T65 HR.out (kk : Int) h0z hltz
      cases e1
      rw [Int.toNat_natCast] at hx0 hx1 hx2 hx3
      replace hx0 := (BW.out.cell (World.block_lt_of_cell? W _ hx0)).trans hx0
      replace hx1 := (BW.out.cell (World.block_lt_of_cell? W _ hx1)).trans hx1
      replace hx2 := (BW.out.cell (World.block_lt_of_cell? W _ hx2)).trans hx2
      replace hx3 := (BW.out.cell (World.block_lt_of_cell? W _ hx3)).trans hx3
      have EY : Aside0 (rd_T65 l (kk : Int) = l[kk]) := ⟨by simp [rd_T65, List.getD, hlt]⟩
      have hcall := HP.out wr (rd_T65 l (kk : Int)) BW.out
      cases hq : p (rd_T65 l (kk : Int)) with
      | true =>
        rw [hq] at hcall
        have HQ := Aside0.mk hq
        clear hq
        go_wp2_with (go_at_fn cl; refine hcall.mono ?_; rintro e w' ⟨rfl, hb'⟩)
        go_ret
        refine ⟨?_, hb'⟩
        have hh := HQ.out
        rw [EY.out] at hh
        have := idxP_at p l 0 kk hlt AN.out hh
        rw [Nat.zero_add] at this
        rw [this]
        rfl
      | false =>
        rw [hq] at hcall
        have HQ := Aside0.mk hq
        clear hq
        go_wp2_with (go_at_fn cl; refine hcall.mono ?_; rintro e w' ⟨rfl, hb'⟩)
        go_roundg (l.length - (kk + 1))
        case measure => omega
        case rel =>
          refine ⟨kk + 1, by omega, by omega, by go_num, ⟨hb'⟩, ⟨fun j hj hjk => ?_⟩⟩
          by_cases e : j = kk
          · subst e
            have hh := HQ.out
            rwa [EY.out] at hh
          · exact AN.out j hj (by omega)
    · have d1 : decide ((kk : Int) < (l.length : Int)) = false := decide_eq_false (by omega)
      go_wp2
      go_ret
      refine ⟨?_, BW.out⟩
      rw [idxP_none p l 0 (by
        rw [List.any_eq_false]
        intro x hx
        obtain ⟨j, hj, rfl⟩ := List.getElem_of_mem hx
        rw [AN.out j hj (by omega)]
        simp)]
      rfl
set_option maxHeartbeats 8000000 in
set_option maxRecDepth 100000 in
theorem containsFunc_Comp (cl : Nat) (lb : Array Value) (p : S65 → Bool) (A : Option Addr) (c : Nat) (l : List S65) (W : World) (hr : Kd.C k65 W A l.length l)
    (eg : ∀ args w, (callFunc cl args).run Try.prog w = .ok (.enter cl args) w)
    (hp : ∀ (W' : World) (x : S65), Below W.heap.size W W' → Calls Try.prog cl (#[.agg #[.int .i64 x.f0, .int .i64 x.f1, .int .i64 x.f2, .int .i64 x.f3]] ++ lb) W' fun e w' => e = .returned (.bool (p x)) ∧ Below W.heap.size W w') :
    Calls Try.prog 83 #[.slice A l.length c, .func (.func cl) #[] lb] W fun e w' => e = .returned (.bool (l.any p)) ∧ Below W.heap.size W w' := by
  have HR := Aside0.mk hr
  have HP := Aside0.mk hp
  clear hr hp
  rw [← idxP_nonneg p l 0]
  go_enter Try.func83, Try.ntmps83
  go_wp2_with (go_at_call 105; refine (indexFunc_Comp cl lb p A c l _ HR.out eg HP.out).mono ?_; rintro e w' ⟨rfl, hb'⟩)
  go_ret
  exact ⟨rfl, hb'⟩
set_option maxHeartbeats 8000000 in
set_option maxRecDepth 100000 in
theorem frameOk1_one (g : Nat) (y : S65) (c0 c1 c2 c3 : Int) (w W : World) (hbx : w.heap[g]? = some (.cells #[.int .i64 c0, .int .i64 c1, .int .i64 c2, .int .i64 c3] 65 (0, 0))) (hb : Below w.heap.size w W) :
    Calls Try.prog 84 (#[.agg #[.int .i64 y.f0, .int .i64 y.f1, .int .i64 y.f2, .int .i64 y.f3]] ++ #[.pointer (some ⟨g, 0, none⟩)]) W fun e w' => e = .returned (.bool (y.f0 == c0)) ∧ Below w.heap.size w w' := by
  have hc : W.cell? ⟨g, 0, none⟩ = some (.int .i64 c0) := (blk_cell (blk_below hbx hb) 0).trans rfl
  have hlt := World.block_lt_of_cell? W _ hc
  have HB := Aside0.mk hb
  clear hb hbx
  have hu := Try.underlying65
  go_enter Try.func84, Try.ntmps84
  go_wp2
  go_ret
  exact ⟨rfl, by repeat (first | exact HB.out | apply below_alloc | apply pw_below_drewN | apply below_drew1)⟩
def impl_FrameOk_1.f (l : List S65) (c0 _c1 _c2 _c3 : Int) : Option Bool := some (l.any fun y => y.f0 == c0)
theorem impl_FrameOk_1.calls (A : Option Addr) (c : Nat) (l : List S65) (g : Nat) (c0 c1 c2 c3 : Int) (r : Bool) (w : World) (hr : Kd.C k65 w A l.length l) (_hc : l.length ≤ c)
    (hbx : w.heap[g]? = some (.cells #[.int .i64 c0, .int .i64 c1, .int .i64 c2, .int .i64 c3] 65 (0, 0))) (h : impl_FrameOk_1.f l c0 c1 c2 c3 = some r) :
    Calls Try.prog 83 #[.slice A l.length c, .func (.func 84) #[] #[.pointer (some ⟨g, 0, none⟩)]] w fun e w' => e = .returned (.bool r) ∧ Below w.heap.size w w' := by
  obtain rfl := Option.some.inj h
  exact containsFunc_Comp 84 _ (fun y => y.f0 == c0) A c l w hr (enters_of Try.func84 (by kernel_rfl) rfl) (fun W' x hb => frameOk1_one g x c0 c1 c2 c3 w W' hbx hb)

end Go.Proofs.Ytimappilioaagaa.CL
