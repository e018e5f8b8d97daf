/- Functions that a law of this seat reaches: written by a program of this session (wip/xprint.py), and by hand. -/
import Derived.Test.YtgbfioolildbeaaCTx0
import Derived.Test.YtgbfioolildbeaaCTx1
import Derived.Test.YtgbfioolildbeaaCTx2
import Derived.Test.YtgbfioolildbeaaCTx3
import Derived.Test.YtgbfioolildbeaaCTx4
namespace Go.Proofs.Ytgbfioolildbeaa.CT
open Go.RowKit Go.Proofs.Ytgbfioolildbeaa.B Go.Proofs.YtgbfioolildbeaaW.PrintWords Go.Proofs.YtgbfioolildbeaaW.PrintLast Go.Proofs.YtgbfioolildbeaaW.PrintMore
attribute [local go_sem] max2_int min2_int max_two min_two max_three min_three max_four min_four   -- for this text's walks alone
set_option linter.unusedVariables false
set_option linter.unusedSimpArgs false

/-! ### impl_FieldsOk: function 49 -/
def impl_FieldsOk.l0 : Nat → Int → List (S41) → Int → Int → Option (Bool)
  | 0, _, _, _, _ => none
  | k + 1, x3, x6, x7, x8 => if x8 < x7 then (if 0 ≤ x8 then (if x8 < (x6.length : Int) then ((impl_within.f ((rd_T41 x6 x8).f0) 0 16).bind fun t186 => (if t186 = true then (if 0 ≤ ((rd_T41 x6 x8).f0) then ((impl_within.f ((rd_T41 x6 x8).f1) 0 (wrap64 ((shl .i64 1 ((rd_T41 x6 x8).f0)) - 1))).bind fun t187 => (if t187 = true then (impl_FieldsOk.l0 k (wrap64 (x3 + ((rd_T41 x6 x8).f0))) x6 x7 (wrap64 (x8 + 1))) else (some false))) else (none)) else (some false))) else (none)) else (none)) else (some (decide (x3 ≤ 480000)))
def impl_FieldsOk.f (k : Nat) (l0 : List (S41)) : Option (Bool) := impl_FieldsOk.l0 k 0 l0 (l0.length : Int) 0
theorem impl_FieldsOk.mono_l : ∀ k, (∀ y0 y1 y2 y3, LeO (impl_FieldsOk.l0 k y0 y1 y2 y3) (impl_FieldsOk.l0 (k + 1) y0 y1 y2 y3))
  | 0 => fun _ _ _ _ r h => by simp [impl_FieldsOk.l0] at h
  | k + 1 => by
    have ih0 := impl_FieldsOk.mono_l k
    · intro y0 y1 y2 y3
      unfold impl_FieldsOk.l0
      repeat' first
      | (with_reducible exact ih0 _ _ _ _)
      | (with_reducible exact LeO.refl _)
      | (with_reducible exact LeO.none _)
      | (with_reducible refine LeO.ite ?_ ?_)
      | (with_reducible refine LeO.bind ?_ (fun _ => ?_))
      | exact ih0 _ _ _ _
      | exact LeO.none _
      | refine LeO.ite ?_ ?_
      | refine LeO.bind ?_ (fun _ => ?_)
theorem impl_FieldsOk.mono : ∀ a0 k, LeO (impl_FieldsOk.f k a0) (impl_FieldsOk.f (k + 1) a0) := by
  intro a0 k
  have ih0 := impl_FieldsOk.mono_l k
  unfold impl_FieldsOk.f
  repeat' first
      | (with_reducible exact ih0 _ _ _ _)
      | (with_reducible exact LeO.refl _)
      | (with_reducible exact LeO.none _)
      | (with_reducible refine LeO.ite ?_ ?_)
      | (with_reducible refine LeO.bind ?_ (fun _ => ?_))
      | exact ih0 _ _ _ _
      | exact LeO.none _
      | refine LeO.ite ?_ ?_
      | refine LeO.bind ?_ (fun _ => ?_)
set_option maxHeartbeats 8000000 in
set_option maxRecDepth 100000 in
theorem impl_FieldsOk.calls (k : Nat) (A0 : Option Addr) (c0 : Nat) (l0 : List (S41)) (r : Bool) (w : World) (hr0 : Kd.C k41 w A0 l0.length l0) (hc0 : l0.length ≤ c0) (h : impl_FieldsOk.f k l0 = some r) :
    Calls Try.prog 49 #[.slice A0 l0.length c0] w fun e w' => e = .returned (.bool r) ∧ Below w.heap.size w w' := by
  have hu41 := Try.underlying41
  have HR0 := Aside0.mk hr0
  have HC0 := Aside0.mk hc0
  clear hr0 hc0
  have HB := Aside0.mk (Below.refl w.heap.size w)
  have H : (impl_FieldsOk.l0 k 0 l0 (l0.length : Int) 0) = some r := h
  clear h
  have H' := Aside0.mk H
  clear H
  go_enter Try.func49, Try.ntmps49
  go_wp2
  repeat (go_quiet (fail); try go_wp2)
  go_loopg [3, 8] k (fun kq v3 v8 w' => ∃ (x3_1 : Int) (x8_1 : Int), v3 = .int .i64 x3_1 ∧ v8 = .int .i64 x8_1 ∧ Aside0 (impl_FieldsOk.l0 kq x3_1 l0 (l0.length : Int) x8_1 = some r) ∧ Aside0 (kq ≤ k) ∧ Aside0 (Below w.heap.size w w'))
  case atStart => exact ⟨(0), (0), (by first | rfl | (simp; done) | (simp [*]; done)), (by first | rfl | (simp; done) | (simp [*]; done)), H', ⟨Nat.le_refl _⟩, ⟨by repeat (first | (with_reducible first | exact HB.out | apply below_alloc | apply pw_below_drewN | apply below_drew1) | exact HB.out)⟩⟩
  case round =>
    clear H'
    obtain ⟨x3_1, x8_1, rfl, rfl, HA, HK1, HB⟩ := hrel
    cases gk with
    | zero => exact absurd HA.out (by simp [impl_FieldsOk.l0])
    | succ k1 =>
      have H := HA.out
      clear HA
      simp only [impl_FieldsOk.l0] at H
      by_cases c2 : x8_1 < (l0.length : Int)
      · rw [if_pos c2] at H
        have c2b0 : decide (x8_1 < (l0.length : Int)) = true := decide_eq_true c2
        clear c2
        by_cases c3 : 0 ≤ x8_1
        · rw [if_pos c3] at H
          have c3b0 : decide (0 ≤ x8_1) = true := decide_eq_true c3
          clear c3
          by_cases c4 : x8_1 < (l0.length : Int)
          · rw [if_pos c4] at H
            have c4b0 : decide (x8_1 < (l0.length : Int)) = true := decide_eq_true c4
            clear c4
            replace H := Option.bind_eq_some_iff.mp H
            obtain ⟨t186, A50, H⟩ := H
            replace H : (if t186 = true then (if 0 ≤ ((rd_T41 l0 x8_1).f0) then ((impl_within.f ((rd_T41 l0 x8_1).f1) 0 (wrap64 ((shl .i64 1 ((rd_T41 l0 x8_1).f0)) - 1))).bind fun t187 => (if t187 = true then (impl_FieldsOk.l0 k1 (wrap64 (x3_1 + ((rd_T41 l0 x8_1).f0))) l0 (l0.length : Int) (wrap64 (x8_1 + 1))) else (some false))) else (none)) else (some false)) = some r := H
            have A5 := Aside0.mk A50
            clear A50
            by_cases c6 : t186 = true
            · subst c6
              have H1 : (if 0 ≤ ((rd_T41 l0 x8_1).f0) then ((impl_within.f ((rd_T41 l0 x8_1).f1) 0 (wrap64 ((shl .i64 1 ((rd_T41 l0 x8_1).f0)) - 1))).bind fun t187 => (if t187 = true then (impl_FieldsOk.l0 k1 (wrap64 (x3_1 + ((rd_T41 l0 x8_1).f0))) l0 (l0.length : Int) (wrap64 (x8_1 + 1))) else (some false))) else (none)) = some r := by rw [if_pos rfl] at H; exact H
              clear H
              have H := H1
              clear H1
              by_cases c7 : 0 ≤ ((rd_T41 l0 x8_1).f0)
              · rw [if_pos c7] at H
                have c7b0 := eq_true c7
                have c7b1 : decide (0 ≤ ((rd_T41 l0 x8_1).f0)) = true := decide_eq_true c7
                clear c7
                obtain ⟨ji8, hji8⟩ : ∃ j_ : Int, (shl .i64 1 ((rd_T41 l0 x8_1).f0)) = j_ := ⟨_, rfl⟩
                replace H : ((impl_within.f ((rd_T41 l0 x8_1).f1) 0 (wrap64 ((ji8) - 1))).bind fun t187 => (if t187 = true then (impl_FieldsOk.l0 k1 (wrap64 (x3_1 + ((rd_T41 l0 x8_1).f0))) l0 (l0.length : Int) (wrap64 (x8_1 + 1))) else (some false))) = some r := by first | (rw [hji8] at H; exact H) | (simp only [hji8] at H ⊢; exact H)
                (try rw [hji8] at A5)
                have hji8_ : (IntKind.i64.wrap (1 * 2 ^ min ((rd_T41 l0 x8_1).f0).toNat 64)) = ji8 := hji8
                have hji8z : ((rd_T41 l0 x8_1).f0) ≤ 64 → (IntKind.i64.wrap (1 * 2 ^ ((rd_T41 l0 x8_1).f0).toNat)) = ji8 := shl_small hji8
                have hji8u : (IntKind.i64.wrap (2 ^ min ((rd_T41 l0 x8_1).f0).toNat 64)) = ji8 := by have h_ := hji8_; rw [Int.one_mul] at h_; exact h_
                have hji8v : ((rd_T41 l0 x8_1).f0) ≤ 64 → (IntKind.i64.wrap (2 ^ ((rd_T41 l0 x8_1).f0).toNat)) = ji8 := fun hle_ => by have h_ := hji8z hle_; rw [Int.one_mul] at h_; exact h_
                have hji8y : (wrap64 (1 * 2 ^ min ((rd_T41 l0 x8_1).f0).toNat 64)) = ji8 := (i64_w _).symm.trans hji8_
                have hji8x : ((rd_T41 l0 x8_1).f0) ≤ 64 → (wrap64 (1 * 2 ^ ((rd_T41 l0 x8_1).f0).toNat)) = ji8 := fun h_ => (i64_w _).symm.trans (hji8z h_)
                replace H := Option.bind_eq_some_iff.mp H
                obtain ⟨t187, A90, H⟩ := H
                replace H : (if t187 = true then (impl_FieldsOk.l0 k1 (wrap64 (x3_1 + ((rd_T41 l0 x8_1).f0))) l0 (l0.length : Int) (wrap64 (x8_1 + 1))) else (some false)) = some r := H
                have A9 := Aside0.mk A90
                clear A90
                by_cases c10 : t187 = true
                · subst c10
                  have H1 : (impl_FieldsOk.l0 k1 (wrap64 (x3_1 + ((rd_T41 l0 x8_1).f0))) l0 (l0.length : Int) (wrap64 (x8_1 + 1))) = some r := by rw [if_pos rfl] at H; exact H
                  clear H
                  have H := H1
                  clear H1
                  have H' := Aside0.mk H
                  clear H
                  have p184 : 0 ≤ (x8_1 : Int) := of_decide_eq_true (by first | (with_reducible assumption) | assumption)
                  have q184 : x8_1 < (l0.length : Int) := of_decide_eq_true (by first | (with_reducible assumption) | assumption)
                  obtain ⟨ad184, e184, hx184_0, hx184_1⟩ := at_T41 HR0.out x8_1 p184 q184
                  cases e184
                  replace hx184_0 := (HB.out.cell (World.block_lt_of_cell? w _ hx184_0)).trans hx184_0
                  replace hx184_1 := (HB.out.cell (World.block_lt_of_cell? w _ hx184_1)).trans hx184_1
                  replace p184 := eq_true p184
                  replace q184 := eq_true q184
                  go_wp2_with (first | ((with_reducible refine gate_dst (N := 5) rfl ?_); refine box_event ?hg (N := 5) ?hd (cs := #[.int .i64 0, .int .i64 0]) (t := 41) ?hr ?_; (case hd => rfl); (case hg => rfl); (case hr => first | (go_simp; done) | (go_simp; rfl)); intro gb185 hg w11 hbox hb; have n0_ := Aside0.mk (below_step (by repeat (first | (with_reducible first | exact HB.out | apply below_alloc | apply pw_below_drewN | apply below_drew1) | exact HB.out)) hb); have n1_ := Aside0.mk (hbox); have n2_ := Aside0.mk ((by rw [hg]; exact (below_size (by repeat (first | (with_reducible first | exact HB.out | apply below_alloc | apply pw_below_drewN | apply below_drew1) | exact HB.out))) : w.heap.size ≤ gb185)); have n3_ := Aside0.mk ((by rw [hg]; exact (below_size (by repeat (first | (with_reducible first | exact HB.out | apply below_alloc | apply pw_below_drewN | apply below_drew1) | exact HB.out))) : w.heap.size ≤ gb185)); clear HB; have HB := n0_; have BK185 := n1_; have GW185 := n2_; have GE185 := n3_; clear n0_ n1_ n2_ n3_; clear hb hbox hg; have hcz12_0 : w11.cell? ⟨gb185, 0, none⟩ = some (.int .i64 0) := (blk_cell BK185.out 0).trans rfl; have hcz12_1 : w11.cell? ⟨gb185, 1, none⟩ = some (.int .i64 0) := (blk_cell BK185.out 1).trans rfl; have hfz12_0 := blk_frozen BK185.out 0; have hfz12_1 := blk_frozen BK185.out 1) | (go_at_call 29; (with_reducible refine (impl_within.calls ((rd_T41 l0 x8_1).f0) 0 16 true _ A5.out).mono ?_); rintro e w' ⟨rfl, ⟨nd, rfl⟩⟩; (try first | exact ⟨rfl, _, World.drewN_drewN _ _ _⟩ | exact ⟨rfl, _, Eq.trans (World.drewN_drewN _ _ _) (congrArg (World.drewN _) (Nat.add_assoc _ _ _))⟩)) | (go_at_call 29; (with_reducible refine (impl_within.calls ((rd_T41 l0 x8_1).f1) 0 (wrap64 ((ji8) - 1)) true _ A9.out).mono ?_); rintro e w' ⟨rfl, ⟨nd, rfl⟩⟩; (try first | exact ⟨rfl, _, World.drewN_drewN _ _ _⟩ | exact ⟨rfl, _, Eq.trans (World.drewN_drewN _ _ _) (congrArg (World.drewN _) (Nat.add_assoc _ _ _))⟩)))
                  repeat (go_quiet (first | ((with_reducible refine gate_dst (N := 5) rfl ?_); refine box_event ?hg (N := 5) ?hd (cs := #[.int .i64 0, .int .i64 0]) (t := 41) ?hr ?_; (case hd => rfl); (case hg => rfl); (case hr => first | (go_simp; done) | (go_simp; rfl)); intro gb185 hg w11 hbox hb; have n0_ := Aside0.mk (below_step (by repeat (first | (with_reducible first | exact HB.out | apply below_alloc | apply pw_below_drewN | apply below_drew1) | exact HB.out)) hb); have n1_ := Aside0.mk (hbox); have n2_ := Aside0.mk ((by rw [hg]; exact (below_size (by repeat (first | (with_reducible first | exact HB.out | apply below_alloc | apply pw_below_drewN | apply below_drew1) | exact HB.out))) : w.heap.size ≤ gb185)); have n3_ := Aside0.mk ((by rw [hg]; exact (below_size (by repeat (first | (with_reducible first | exact HB.out | apply below_alloc | apply pw_below_drewN | apply below_drew1) | exact HB.out))) : w.heap.size ≤ gb185)); clear HB; have HB := n0_; have BK185 := n1_; have GW185 := n2_; have GE185 := n3_; clear n0_ n1_ n2_ n3_; clear hb hbox hg; have hcz12_0 : w11.cell? ⟨gb185, 0, none⟩ = some (.int .i64 0) := (blk_cell BK185.out 0).trans rfl; have hcz12_1 : w11.cell? ⟨gb185, 1, none⟩ = some (.int .i64 0) := (blk_cell BK185.out 1).trans rfl; have hfz12_0 := blk_frozen BK185.out 0; have hfz12_1 := blk_frozen BK185.out 1) | (go_at_call 29; (with_reducible refine (impl_within.calls ((rd_T41 l0 x8_1).f0) 0 16 true _ A5.out).mono ?_); rintro e w' ⟨rfl, ⟨nd, rfl⟩⟩; (try first | exact ⟨rfl, _, World.drewN_drewN _ _ _⟩ | exact ⟨rfl, _, Eq.trans (World.drewN_drewN _ _ _) (congrArg (World.drewN _) (Nat.add_assoc _ _ _))⟩)) | (go_at_call 29; (with_reducible refine (impl_within.calls ((rd_T41 l0 x8_1).f1) 0 (wrap64 ((ji8) - 1)) true _ A9.out).mono ?_); rintro e w' ⟨rfl, ⟨nd, rfl⟩⟩; (try first | exact ⟨rfl, _, World.drewN_drewN _ _ _⟩ | exact ⟨rfl, _, Eq.trans (World.drewN_drewN _ _ _) (congrArg (World.drewN _) (Nat.add_assoc _ _ _))⟩))); try go_wp2_with (first | ((with_reducible refine gate_dst (N := 5) rfl ?_); refine box_event ?hg (N := 5) ?hd (cs := #[.int .i64 0, .int .i64 0]) (t := 41) ?hr ?_; (case hd => rfl); (case hg => rfl); (case hr => first | (go_simp; done) | (go_simp; rfl)); intro gb185 hg w11 hbox hb; have n0_ := Aside0.mk (below_step (by repeat (first | (with_reducible first | exact HB.out | apply below_alloc | apply pw_below_drewN | apply below_drew1) | exact HB.out)) hb); have n1_ := Aside0.mk (hbox); have n2_ := Aside0.mk ((by rw [hg]; exact (below_size (by repeat (first | (with_reducible first | exact HB.out | apply below_alloc | apply pw_below_drewN | apply below_drew1) | exact HB.out))) : w.heap.size ≤ gb185)); have n3_ := Aside0.mk ((by rw [hg]; exact (below_size (by repeat (first | (with_reducible first | exact HB.out | apply below_alloc | apply pw_below_drewN | apply below_drew1) | exact HB.out))) : w.heap.size ≤ gb185)); clear HB; have HB := n0_; have BK185 := n1_; have GW185 := n2_; have GE185 := n3_; clear n0_ n1_ n2_ n3_; clear hb hbox hg; have hcz12_0 : w11.cell? ⟨gb185, 0, none⟩ = some (.int .i64 0) := (blk_cell BK185.out 0).trans rfl; have hcz12_1 : w11.cell? ⟨gb185, 1, none⟩ = some (.int .i64 0) := (blk_cell BK185.out 1).trans rfl; have hfz12_0 := blk_frozen BK185.out 0; have hfz12_1 := blk_frozen BK185.out 1) | (go_at_call 29; (with_reducible refine (impl_within.calls ((rd_T41 l0 x8_1).f0) 0 16 true _ A5.out).mono ?_); rintro e w' ⟨rfl, ⟨nd, rfl⟩⟩; (try first | exact ⟨rfl, _, World.drewN_drewN _ _ _⟩ | exact ⟨rfl, _, Eq.trans (World.drewN_drewN _ _ _) (congrArg (World.drewN _) (Nat.add_assoc _ _ _))⟩)) | (go_at_call 29; (with_reducible refine (impl_within.calls ((rd_T41 l0 x8_1).f1) 0 (wrap64 ((ji8) - 1)) true _ A9.out).mono ?_); rintro e w' ⟨rfl, ⟨nd, rfl⟩⟩; (try first | exact ⟨rfl, _, World.drewN_drewN _ _ _⟩ | exact ⟨rfl, _, Eq.trans (World.drewN_drewN _ _ _) (congrArg (World.drewN _) (Nat.add_assoc _ _ _))⟩))))
                  go_roundg k1
                  case measure => have := HK1.out; omega
                  case rel => exact ⟨(wrap64 (x3_1 + ((rd_T41 l0 x8_1).f0))), (wrap64 (x8_1 + 1)), (by first | rfl | (simp; done) | (simp [*]; done)), (by first | rfl | (simp; done) | (simp [*]; done)), H', ⟨by have := HK1.out; omega⟩, ⟨by repeat (first | (with_reducible first | exact HB.out | apply below_alloc | apply pw_below_drewN | apply below_drew1 | refine below_set ?_ GE185.out) | exact HB.out)⟩⟩
                · replace c10 := Bool.eq_false_iff.mpr c10
                  subst c10
                  have H1 : (some false) = some r := by rw [if_neg (show ¬ (false = true) by decide)] at H; exact H
                  clear H
                  have H := H1
                  clear H1
                  obtain rfl := Option.some.inj H
                  have p184 : 0 ≤ (x8_1 : Int) := of_decide_eq_true (by first | (with_reducible assumption) | assumption)
                  have q184 : x8_1 < (l0.length : Int) := of_decide_eq_true (by first | (with_reducible assumption) | assumption)
                  obtain ⟨ad184, e184, hx184_0, hx184_1⟩ := at_T41 HR0.out x8_1 p184 q184
                  cases e184
                  replace hx184_0 := (HB.out.cell (World.block_lt_of_cell? w _ hx184_0)).trans hx184_0
                  replace hx184_1 := (HB.out.cell (World.block_lt_of_cell? w _ hx184_1)).trans hx184_1
                  replace p184 := eq_true p184
                  replace q184 := eq_true q184
                  go_wp2_with (first | ((with_reducible refine gate_dst (N := 5) rfl ?_); refine box_event ?hg (N := 5) ?hd (cs := #[.int .i64 0, .int .i64 0]) (t := 41) ?hr ?_; (case hd => rfl); (case hg => rfl); (case hr => first | (go_simp; done) | (go_simp; rfl)); intro gb185 hg w13 hbox hb; have n0_ := Aside0.mk (below_step (by repeat (first | (with_reducible first | exact HB.out | apply below_alloc | apply pw_below_drewN | apply below_drew1) | exact HB.out)) hb); have n1_ := Aside0.mk (hbox); have n2_ := Aside0.mk ((by rw [hg]; exact (below_size (by repeat (first | (with_reducible first | exact HB.out | apply below_alloc | apply pw_below_drewN | apply below_drew1) | exact HB.out))) : w.heap.size ≤ gb185)); have n3_ := Aside0.mk ((by rw [hg]; exact (below_size (by repeat (first | (with_reducible first | exact HB.out | apply below_alloc | apply pw_below_drewN | apply below_drew1) | exact HB.out))) : w.heap.size ≤ gb185)); clear HB; have HB := n0_; have BK185 := n1_; have GW185 := n2_; have GE185 := n3_; clear n0_ n1_ n2_ n3_; clear hb hbox hg; have hcz14_0 : w13.cell? ⟨gb185, 0, none⟩ = some (.int .i64 0) := (blk_cell BK185.out 0).trans rfl; have hcz14_1 : w13.cell? ⟨gb185, 1, none⟩ = some (.int .i64 0) := (blk_cell BK185.out 1).trans rfl; have hfz14_0 := blk_frozen BK185.out 0; have hfz14_1 := blk_frozen BK185.out 1) | (go_at_call 29; (with_reducible refine (impl_within.calls ((rd_T41 l0 x8_1).f0) 0 16 true _ A5.out).mono ?_); rintro e w' ⟨rfl, ⟨nd, rfl⟩⟩; (try first | exact ⟨rfl, _, World.drewN_drewN _ _ _⟩ | exact ⟨rfl, _, Eq.trans (World.drewN_drewN _ _ _) (congrArg (World.drewN _) (Nat.add_assoc _ _ _))⟩)) | (go_at_call 29; (with_reducible refine (impl_within.calls ((rd_T41 l0 x8_1).f1) 0 (wrap64 ((ji8) - 1)) false _ A9.out).mono ?_); rintro e w' ⟨rfl, ⟨nd, rfl⟩⟩; (try first | exact ⟨rfl, _, World.drewN_drewN _ _ _⟩ | exact ⟨rfl, _, Eq.trans (World.drewN_drewN _ _ _) (congrArg (World.drewN _) (Nat.add_assoc _ _ _))⟩)))
                  repeat (go_quiet (first | ((with_reducible refine gate_dst (N := 5) rfl ?_); refine box_event ?hg (N := 5) ?hd (cs := #[.int .i64 0, .int .i64 0]) (t := 41) ?hr ?_; (case hd => rfl); (case hg => rfl); (case hr => first | (go_simp; done) | (go_simp; rfl)); intro gb185 hg w13 hbox hb; have n0_ := Aside0.mk (below_step (by repeat (first | (with_reducible first | exact HB.out | apply below_alloc | apply pw_below_drewN | apply below_drew1) | exact HB.out)) hb); have n1_ := Aside0.mk (hbox); have n2_ := Aside0.mk ((by rw [hg]; exact (below_size (by repeat (first | (with_reducible first | exact HB.out | apply below_alloc | apply pw_below_drewN | apply below_drew1) | exact HB.out))) : w.heap.size ≤ gb185)); have n3_ := Aside0.mk ((by rw [hg]; exact (below_size (by repeat (first | (with_reducible first | exact HB.out | apply below_alloc | apply pw_below_drewN | apply below_drew1) | exact HB.out))) : w.heap.size ≤ gb185)); clear HB; have HB := n0_; have BK185 := n1_; have GW185 := n2_; have GE185 := n3_; clear n0_ n1_ n2_ n3_; clear hb hbox hg; have hcz14_0 : w13.cell? ⟨gb185, 0, none⟩ = some (.int .i64 0) := (blk_cell BK185.out 0).trans rfl; have hcz14_1 : w13.cell? ⟨gb185, 1, none⟩ = some (.int .i64 0) := (blk_cell BK185.out 1).trans rfl; have hfz14_0 := blk_frozen BK185.out 0; have hfz14_1 := blk_frozen BK185.out 1) | (go_at_call 29; (with_reducible refine (impl_within.calls ((rd_T41 l0 x8_1).f0) 0 16 true _ A5.out).mono ?_); rintro e w' ⟨rfl, ⟨nd, rfl⟩⟩; (try first | exact ⟨rfl, _, World.drewN_drewN _ _ _⟩ | exact ⟨rfl, _, Eq.trans (World.drewN_drewN _ _ _) (congrArg (World.drewN _) (Nat.add_assoc _ _ _))⟩)) | (go_at_call 29; (with_reducible refine (impl_within.calls ((rd_T41 l0 x8_1).f1) 0 (wrap64 ((ji8) - 1)) false _ A9.out).mono ?_); rintro e w' ⟨rfl, ⟨nd, rfl⟩⟩; (try first | exact ⟨rfl, _, World.drewN_drewN _ _ _⟩ | exact ⟨rfl, _, Eq.trans (World.drewN_drewN _ _ _) (congrArg (World.drewN _) (Nat.add_assoc _ _ _))⟩))); try go_wp2_with (first | ((with_reducible refine gate_dst (N := 5) rfl ?_); refine box_event ?hg (N := 5) ?hd (cs := #[.int .i64 0, .int .i64 0]) (t := 41) ?hr ?_; (case hd => rfl); (case hg => rfl); (case hr => first | (go_simp; done) | (go_simp; rfl)); intro gb185 hg w13 hbox hb; have n0_ := Aside0.mk (below_step (by repeat (first | (with_reducible first | exact HB.out | apply below_alloc | apply pw_below_drewN | apply below_drew1) | exact HB.out)) hb); have n1_ := Aside0.mk (hbox); have n2_ := Aside0.mk ((by rw [hg]; exact (below_size (by repeat (first | (with_reducible first | exact HB.out | apply below_alloc | apply pw_below_drewN | apply below_drew1) | exact HB.out))) : w.heap.size ≤ gb185)); have n3_ := Aside0.mk ((by rw [hg]; exact (below_size (by repeat (first | (with_reducible first | exact HB.out | apply below_alloc | apply pw_below_drewN | apply below_drew1) | exact HB.out))) : w.heap.size ≤ gb185)); clear HB; have HB := n0_; have BK185 := n1_; have GW185 := n2_; have GE185 := n3_; clear n0_ n1_ n2_ n3_; clear hb hbox hg; have hcz14_0 : w13.cell? ⟨gb185, 0, none⟩ = some (.int .i64 0) := (blk_cell BK185.out 0).trans rfl; have hcz14_1 : w13.cell? ⟨gb185, 1, none⟩ = some (.int .i64 0) := (blk_cell BK185.out 1).trans rfl; have hfz14_0 := blk_frozen BK185.out 0; have hfz14_1 := blk_frozen BK185.out 1) | (go_at_call 29; (with_reducible refine (impl_within.calls ((rd_T41 l0 x8_1).f0) 0 16 true _ A5.out).mono ?_); rintro e w' ⟨rfl, ⟨nd, rfl⟩⟩; (try first | exact ⟨rfl, _, World.drewN_drewN _ _ _⟩ | exact ⟨rfl, _, Eq.trans (World.drewN_drewN _ _ _) (congrArg (World.drewN _) (Nat.add_assoc _ _ _))⟩)) | (go_at_call 29; (with_reducible refine (impl_within.calls ((rd_T41 l0 x8_1).f1) 0 (wrap64 ((ji8) - 1)) false _ A9.out).mono ?_); rintro e w' ⟨rfl, ⟨nd, rfl⟩⟩; (try first | exact ⟨rfl, _, World.drewN_drewN _ _ _⟩ | exact ⟨rfl, _, Eq.trans (World.drewN_drewN _ _ _) (congrArg (World.drewN _) (Nat.add_assoc _ _ _))⟩))))
                  go_ret
                  exact ⟨by first | rfl | (simp [errW_none, errW_some] <;> rfl) | (simp only [← hji8]; first | rfl | (simp [errW_none, errW_some] <;> rfl)) | (simp [*, errW_none, errW_some] <;> rfl), by repeat (first | (with_reducible first | exact HB.out | apply below_alloc | apply pw_below_drewN | apply below_drew1 | refine below_set ?_ GE185.out) | exact HB.out)⟩
              · rw [if_neg c7] at H
                exact absurd H (by simp)
            · replace c6 := Bool.eq_false_iff.mpr c6
              subst c6
              have H1 : (some false) = some r := by rw [if_neg (show ¬ (false = true) by decide)] at H; exact H
              clear H
              have H := H1
              clear H1
              obtain rfl := Option.some.inj H
              have p184 : 0 ≤ (x8_1 : Int) := of_decide_eq_true (by first | (with_reducible assumption) | assumption)
              have q184 : x8_1 < (l0.length : Int) := of_decide_eq_true (by first | (with_reducible assumption) | assumption)
              obtain ⟨ad184, e184, hx184_0, hx184_1⟩ := at_T41 HR0.out x8_1 p184 q184
              cases e184
              replace hx184_0 := (HB.out.cell (World.block_lt_of_cell? w _ hx184_0)).trans hx184_0
              replace hx184_1 := (HB.out.cell (World.block_lt_of_cell? w _ hx184_1)).trans hx184_1
              replace p184 := eq_true p184
              replace q184 := eq_true q184
              go_wp2_with (first | ((with_reducible refine gate_dst (N := 5) rfl ?_); refine box_event ?hg (N := 5) ?hd (cs := #[.int .i64 0, .int .i64 0]) (t := 41) ?hr ?_; (case hd => rfl); (case hg => rfl); (case hr => first | (go_simp; done) | (go_simp; rfl)); intro gb185 hg w15 hbox hb; have n0_ := Aside0.mk (below_step (by repeat (first | (with_reducible first | exact HB.out | apply below_alloc | apply pw_below_drewN | apply below_drew1) | exact HB.out)) hb); have n1_ := Aside0.mk (hbox); have n2_ := Aside0.mk ((by rw [hg]; exact (below_size (by repeat (first | (with_reducible first | exact HB.out | apply below_alloc | apply pw_below_drewN | apply below_drew1) | exact HB.out))) : w.heap.size ≤ gb185)); have n3_ := Aside0.mk ((by rw [hg]; exact (below_size (by repeat (first | (with_reducible first | exact HB.out | apply below_alloc | apply pw_below_drewN | apply below_drew1) | exact HB.out))) : w.heap.size ≤ gb185)); clear HB; have HB := n0_; have BK185 := n1_; have GW185 := n2_; have GE185 := n3_; clear n0_ n1_ n2_ n3_; clear hb hbox hg; have hcz16_0 : w15.cell? ⟨gb185, 0, none⟩ = some (.int .i64 0) := (blk_cell BK185.out 0).trans rfl; have hcz16_1 : w15.cell? ⟨gb185, 1, none⟩ = some (.int .i64 0) := (blk_cell BK185.out 1).trans rfl; have hfz16_0 := blk_frozen BK185.out 0; have hfz16_1 := blk_frozen BK185.out 1) | (go_at_call 29; (with_reducible refine (impl_within.calls ((rd_T41 l0 x8_1).f0) 0 16 false _ A5.out).mono ?_); rintro e w' ⟨rfl, ⟨nd, rfl⟩⟩; (try first | exact ⟨rfl, _, World.drewN_drewN _ _ _⟩ | exact ⟨rfl, _, Eq.trans (World.drewN_drewN _ _ _) (congrArg (World.drewN _) (Nat.add_assoc _ _ _))⟩)))
              repeat (go_quiet (first | ((with_reducible refine gate_dst (N := 5) rfl ?_); refine box_event ?hg (N := 5) ?hd (cs := #[.int .i64 0, .int .i64 0]) (t := 41) ?hr ?_; (case hd => rfl); (case hg => rfl); (case hr => first | (go_simp; done) | (go_simp; rfl)); intro gb185 hg w15 hbox hb; have n0_ := Aside0.mk (below_step (by repeat (first | (with_reducible first | exact HB.out | apply below_alloc | apply pw_below_drewN | apply below_drew1) | exact HB.out)) hb); have n1_ := Aside0.mk (hbox); have n2_ := Aside0.mk ((by rw [hg]; exact (below_size (by repeat (first | (with_reducible first | exact HB.out | apply below_alloc | apply pw_below_drewN | apply below_drew1) | exact HB.out))) : w.heap.size ≤ gb185)); have n3_ := Aside0.mk ((by rw [hg]; exact (below_size (by repeat (first | (with_reducible first | exact HB.out | apply below_alloc | apply pw_below_drewN | apply below_drew1) | exact HB.out))) : w.heap.size ≤ gb185)); clear HB; have HB := n0_; have BK185 := n1_; have GW185 := n2_; have GE185 := n3_; clear n0_ n1_ n2_ n3_; clear hb hbox hg; have hcz16_0 : w15.cell? ⟨gb185, 0, none⟩ = some (.int .i64 0) := (blk_cell BK185.out 0).trans rfl; have hcz16_1 : w15.cell? ⟨gb185, 1, none⟩ = some (.int .i64 0) := (blk_cell BK185.out 1).trans rfl; have hfz16_0 := blk_frozen BK185.out 0; have hfz16_1 := blk_frozen BK185.out 1) | (go_at_call 29; (with_reducible refine (impl_within.calls ((rd_T41 l0 x8_1).f0) 0 16 false _ A5.out).mono ?_); rintro e w' ⟨rfl, ⟨nd, rfl⟩⟩; (try first | exact ⟨rfl, _, World.drewN_drewN _ _ _⟩ | exact ⟨rfl, _, Eq.trans (World.drewN_drewN _ _ _) (congrArg (World.drewN _) (Nat.add_assoc _ _ _))⟩))); try go_wp2_with (first | ((with_reducible refine gate_dst (N := 5) rfl ?_); refine box_event ?hg (N := 5) ?hd (cs := #[.int .i64 0, .int .i64 0]) (t := 41) ?hr ?_; (case hd => rfl); (case hg => rfl); (case hr => first | (go_simp; done) | (go_simp; rfl)); intro gb185 hg w15 hbox hb; have n0_ := Aside0.mk (below_step (by repeat (first | (with_reducible first | exact HB.out | apply below_alloc | apply pw_below_drewN | apply below_drew1) | exact HB.out)) hb); have n1_ := Aside0.mk (hbox); have n2_ := Aside0.mk ((by rw [hg]; exact (below_size (by repeat (first | (with_reducible first | exact HB.out | apply below_alloc | apply pw_below_drewN | apply below_drew1) | exact HB.out))) : w.heap.size ≤ gb185)); have n3_ := Aside0.mk ((by rw [hg]; exact (below_size (by repeat (first | (with_reducible first | exact HB.out | apply below_alloc | apply pw_below_drewN | apply below_drew1) | exact HB.out))) : w.heap.size ≤ gb185)); clear HB; have HB := n0_; have BK185 := n1_; have GW185 := n2_; have GE185 := n3_; clear n0_ n1_ n2_ n3_; clear hb hbox hg; have hcz16_0 : w15.cell? ⟨gb185, 0, none⟩ = some (.int .i64 0) := (blk_cell BK185.out 0).trans rfl; have hcz16_1 : w15.cell? ⟨gb185, 1, none⟩ = some (.int .i64 0) := (blk_cell BK185.out 1).trans rfl; have hfz16_0 := blk_frozen BK185.out 0; have hfz16_1 := blk_frozen BK185.out 1) | (go_at_call 29; (with_reducible refine (impl_within.calls ((rd_T41 l0 x8_1).f0) 0 16 false _ A5.out).mono ?_); rintro e w' ⟨rfl, ⟨nd, rfl⟩⟩; (try first | exact ⟨rfl, _, World.drewN_drewN _ _ _⟩ | exact ⟨rfl, _, Eq.trans (World.drewN_drewN _ _ _) (congrArg (World.drewN _) (Nat.add_assoc _ _ _))⟩))))
              go_ret
              exact ⟨by first | rfl | (simp [errW_none, errW_some] <;> rfl) | (simp [*, errW_none, errW_some] <;> rfl), by repeat (first | (with_reducible first | exact HB.out | apply below_alloc | apply pw_below_drewN | apply below_drew1 | refine below_set ?_ GE185.out) | exact HB.out)⟩
          · rw [if_neg c4] at H
            exact absurd H (by simp)
        · rw [if_neg c3] at H
          exact absurd H (by simp)
      · rw [if_neg c2] at H
        have c2b0 : decide (x8_1 < (l0.length : Int)) = false := decide_eq_false c2
        clear c2
        obtain rfl := Option.some.inj H
        go_wp2
        repeat (go_quiet (fail); try go_wp2)
        go_ret
        exact ⟨by first | rfl | (simp [errW_none, errW_some] <;> rfl) | (simp [*, errW_none, errW_some] <;> rfl), by repeat (first | (with_reducible first | exact HB.out | apply below_alloc | apply pw_below_drewN | apply below_drew1) | exact HB.out)⟩

theorem iFields_l0 (l : List S41) (hl : l.length ≤ 1048576) : ∀ (d i : Nat) (a : Int), i + d = l.length → 0 ≤ a → a ≤ 16 * i → Ev (fun k => impl_FieldsOk.l0 k a l (l.length : Int) i) ((l.drop i).all fldB && decide (a + sumF (l.drop i) ≤ 480000)) := by
  intro d
  induction d with
  | zero =>
    intro i a hi h0 h1
    refine Ev.step (fun k => by rw [impl_FieldsOk.l0]) ?_
    rw [List.drop_eq_nil_of_le (by omega), List.all_nil, Bool.true_and]
    refine evNeg (by omega) (evCast (Ev.now _) ?_)
    simp [sumF]
  | succ d ih =>
    intro i a hi h0 h1
    have hlt : i < l.length := by omega
    refine Ev.step (fun k => by rw [impl_FieldsOk.l0]) ?_
    refine evPos (by omega) (evPos (by omega) (evPos (by omega) ?_))
    rw [List.drop_eq_getElem_cons hlt, rdF_nat hlt, within_f]
    obtain ⟨f, hf⟩ : ∃ f, f = l[i] := ⟨_, rfl⟩
    rw [← hf]
    simp only [Option.bind_some, List.all_cons]
    by_cases hb : inR f.f0 0 16 = true
    · have hb1 := inR_iff.1 hb
      have hp := powP f.f0.toNat
      have hq := powQ f.f0.toNat (by omega)
      refine evPos hb (evPos hb1.1 ?_)
      rw [shlP _ hb1.1 hb1.2, w64 (x := 2 ^ f.f0.toNat - 1) (by omega) (by omega), within_f]
      simp only [Option.bind_some]
      by_cases hc : inR f.f1 0 (2 ^ f.f0.toNat - 1) = true
      · have hfb : fldB f = true := by rw [fldB, hb, hc]; rfl
        refine evPos hc ?_
        rw [w64 (by omega) (by omega), w64 (by omega) (by omega), hfb, Bool.true_and]
        refine evCast (ih (i + 1) (a + f.f0) (by omega) (by omega) (by omega)) ?_
        rw [show a + f.f0 + sumF (l.drop (i + 1)) = a + sumF (f :: l.drop (i + 1)) from by simp only [sumF, List.map_cons, List.sum_cons]; omega]
      · have hfb : fldB f = false := by rw [fldB, hb, Bool.eq_false_iff.2 hc]; rfl
        refine evNeg hc ?_
        rw [hfb]
        exact Ev.now false
    · have hfb : fldB f = false := by rw [fldB, Bool.eq_false_iff.2 hb]; rfl
      refine evNeg hb ?_
      rw [hfb]
      exact Ev.now false
theorem iFields_f (l : List S41) (hl : l.length ≤ 1048576) : Ev (fun k => impl_FieldsOk.f k l) (fieldsB l) := by
  unfold impl_FieldsOk.f fieldsB
  have := iFields_l0 l hl l.length 0 0 (by omega) (by omega) (by omega)
  rw [List.drop_zero, Int.zero_add] at this
  exact this

/-! ### impl_PackBits_1: function 50 (by hand) -/
theorem drew_alloc (W : World) (o : Obj) : (W.alloc o).drew = W.drew.alloc o := rfl
section
variable {P : Program} {ops : Array Oper} {o : Oper} {a : Act} {Q : Exit → Act → World → Prop} {Kc : Act → World → Prop}
/-- append in a region that has drawn its order behind the new cells. -/
theorem append_byte {w0 W : World} (base : Nat) (s x : Operand) (ho : o.op = .call { callee := .builtin .append, args := #[s, x], argTypes := #[23, 23] }) (hg : o.guard = none)
    (v : Value) (xs : List Int) (p : Int) (hs : a.eval s = v) (hx : a.eval x = .slice (some ⟨W.heap.size, 0, none⟩) 1 1)
    (HO : Kd.R (Kd.int .u8) 5 W base (fun _ => True) v xs) (HB : Below base w0 W) (hbase : base ≤ W.heap.size) (hl : (xs.length + 1) * 1 ≤ 140737488355328)
    (h : ∀ v1 w1, Kd.R (Kd.int .u8) 5 w1 base (fun _ => True) v1 (xs ++ [p]) → Below base w0 w1 → W.drew.grownBy w1 v.ownBlock → Kc (a.put o.dst v1) w1) :
    if Region.wanted o (yielded ops a.tmps) = true then Oper.wp Try.prog o a ((W.alloc (.cells #[.int .u8 p] 5)).drew) Kc Q else Kc (a.put o.dst undef) ((W.alloc (.cells #[.int .u8 p] 5)).drew) := by
  rw [drew_alloc]
  exact Kd.R_append_step (Kd.int .u8) (w0 := w0) (W := W.drew) base (by simp [Region.wanted, hg]) s x 23 5 (.int .u8 0) 1 ho Try.underlying23 info5 rfl (by decide) (by omega) v xs p [.int .u8 p] (fun _ => True) (fun _ => False) hs hx rfl (fun _ hk => hk.elim) (fun _ _ => trivial) (Kd.R_drew HO) (below_drew1 HB) hbase hl (fun v1 w1 h1 h2 h3 _ => h v1 w1 h1 h2 h3)
end
def putL : Nat → Int → Int → List Int → Option (Int × Int × List Int)
  | 0, _, _, _ => none
  | k + 1, b, m, out => if 8 ≤ m then putL k (Go.bits .and .i64 b (wrap64 (wrap64 (2 ^ (m - 8).toNat) - 1))) (m - 8) (out ++ [IntKind.u8.wrap (b / 2 ^ (m - 8).toNat)]) else some (b, m, out)
set_option maxHeartbeats 8000000 in
set_option maxRecDepth 100000 in
theorem put_walk (gb gm go : Nat) (b m n v : Int) (vo : Value) (out : List Int) (w0 W : World) (hne1 : gb ≠ gm) (hne2 : gb ≠ go) (hne3 : gm ≠ go)
    (hb : W.heap[gb]? = some (.cells #[.int .i64 b] 3 (0, 0))) (hm : W.heap[gm]? = some (.cells #[.int .i64 m] 3 (0, 0))) (ho : W.heap[go]? = some (.cells #[vo] 23 (0, 0)))
    (hr : Kd.R (Kd.int .u8) 5 W w0.heap.size (fun _ => True) vo out) (hB : Below w0.heap.size w0 W) (hgb : w0.heap.size ≤ gb) (hgm : w0.heap.size ≤ gm) (hgo : w0.heap.size ≤ go) (hol : out.length ≤ 1048576) (hn0 : 0 ≤ n) (hn1 : n ≤ 16) (hm0 : 0 ≤ m) (hm1 : m ≤ 7) (rb rm : Int) (rout : List Int) (hp : putL 4 (Go.bits .or .i64 (wrap64 (b * 2 ^ n.toNat)) v) (m + n) out = some (rb, rm, rout)) :
    Calls Try.prog 50 #[.int .i64 n, .int .i64 v, .pointer (some ⟨gb, 0, none⟩), .pointer (some ⟨gm, 0, none⟩), .pointer (some ⟨go, 0, none⟩)] W fun e w' => e = .returned (.tuple #[]) ∧ w'.heap[gb]? = some (.cells #[.int .i64 rb] 3 (0, 0)) ∧ w'.heap[gm]? = some (.cells #[.int .i64 rm] 3 (0, 0)) ∧ (∃ v', w'.heap[go]? = some (.cells #[v'] 23 (0, 0)) ∧ Kd.R (Kd.int .u8) 5 w' w0.heap.size (fun _ => True) v' rout) ∧ Below w0.heap.size w0 w' := by
  have hx0 := (blk_cell hb 0).trans (show (#[Value.int .i64 b])[0]? = some (.int .i64 b) from rfl)
  have hx1 := (blk_cell hm 0).trans (show (#[Value.int .i64 m])[0]? = some (.int .i64 m) from rfl)
  have hx2 := (blk_cell ho 0).trans (show (#[vo])[0]? = some vo from rfl)
  have hf0 := blk_frozen hb 0
  have hf1 := blk_frozen hm 0
  have hf2 := blk_frozen ho 0
  have e1 : (0 ≤ n) = True := eq_true hn0
  go_enter Try.func50, Try.ntmps50
  go_wp2
  go_region
  go_wp2
  obtain ⟨b1, hb1⟩ : ∃ b1, b1 = Go.bits .or .i64 (wrap64 (b * 2 ^ n.toNat)) v := ⟨_, rfl⟩
  rw [← hb1] at hp ⊢
  have HP := Aside0.mk hp
  clear hp hb1
  have Hb : Aside0 ((((W.setCell ⟨gb, 0, none⟩ (.int .i64 b1)).setCell ⟨gm, 0, none⟩ (.int .i64 (m + n))).drew).heap[gb]? = some (.cells #[.int .i64 b1] 3 (0, 0))) := ⟨blk_drew (blk_far (blk_put hb 0 _ rfl) hne1 _)⟩
  have Hm : Aside0 ((((W.setCell ⟨gb, 0, none⟩ (.int .i64 b1)).setCell ⟨gm, 0, none⟩ (.int .i64 (m + n))).drew).heap[gm]? = some (.cells #[.int .i64 (m + n)] 3 (0, 0))) := ⟨blk_drew (blk_put (blk_far hm (p := ⟨gb, 0, none⟩) (Ne.symm hne1) _) 0 _ rfl)⟩
  have Ho : Aside0 ((((W.setCell ⟨gb, 0, none⟩ (.int .i64 b1)).setCell ⟨gm, 0, none⟩ (.int .i64 (m + n))).drew).heap[go]? = some (.cells #[vo] 23 (0, 0))) := ⟨blk_drew (blk_far (blk_far ho (p := ⟨gb, 0, none⟩) (Ne.symm hne2) _) (p := ⟨gm, 0, none⟩) (Ne.symm hne3) _)⟩
  have Hr : Aside0 (Kd.R (Kd.int .u8) 5 (((W.setCell ⟨gb, 0, none⟩ (.int .i64 b1)).setCell ⟨gm, 0, none⟩ (.int .i64 (m + n))).drew) w0.heap.size (fun _ => True) vo out) := ⟨Kd.R_drew (Kd.R_set (Kd.R_set hr hb (by decide) 0 _) (blk_far hm (p := ⟨gb, 0, none⟩) (Ne.symm hne1) _) (by decide) 0 _)⟩
  have HB : Aside0 (Below w0.heap.size w0 (((W.setCell ⟨gb, 0, none⟩ (.int .i64 b1)).setCell ⟨gm, 0, none⟩ (.int .i64 (m + n))).drew)) := ⟨below_drew1 (below_set (below_set hB hgb) hgm)⟩
  generalize ((W.setCell ⟨gb, 0, none⟩ (.int .i64 b1)).setCell ⟨gm, 0, none⟩ (.int .i64 (m + n))).drew = w2 at Hb Hm Ho Hr HB ⊢
  clear hx0 hx1 hx2 hf0 hf1 hf2 hb hm ho hr hB
  go_loopg [] 4 (fun kq w' => ∃ (b' m' : Int) (vo' : Value) (out' : List Int), Aside0 (0 ≤ m' ∧ m' ≤ 23) ∧ Aside0 (putL kq b' m' out' = some (rb, rm, rout)) ∧ Aside0 (out'.length + kq ≤ out.length + 4) ∧ Aside0 (w'.heap[gb]? = some (.cells #[.int .i64 b'] 3 (0, 0))) ∧ Aside0 (w'.heap[gm]? = some (.cells #[.int .i64 m'] 3 (0, 0))) ∧ Aside0 (w'.heap[go]? = some (.cells #[vo'] 23 (0, 0))) ∧ Aside0 (Kd.R (Kd.int .u8) 5 w' w0.heap.size (fun _ => True) vo' out') ∧ Aside0 (Below w0.heap.size w0 w'))
  case atStart => exact ⟨b1, m + n, vo, out, ⟨by omega⟩, HP, ⟨Nat.le_refl _⟩, Hb, Hm, Ho, Hr, HB⟩
  case round =>
    clear HP Hb Hm Ho Hr HB
    obtain ⟨b', m', vo', out', HM, HK, HL, Hb, Hm, Ho, Hr, HB⟩ := hrel
    obtain ⟨k', rfl⟩ : ∃ k', gk = k' + 1 := by
      cases gk with
      | zero => exact absurd HK.out (by simp [putL])
      | succ k' => exact ⟨k', rfl⟩
    have hx0 := (blk_cell Hb.out 0).trans (show (#[Value.int .i64 b'])[0]? = some (.int .i64 b') from rfl)
    have hx1 := (blk_cell Hm.out 0).trans (show (#[Value.int .i64 m'])[0]? = some (.int .i64 m') from rfl)
    have hx2 := (blk_cell Ho.out 0).trans (show (#[vo'])[0]? = some vo' from rfl)
    have hf0 := blk_frozen Hb.out 0
    have hf1 := blk_frozen Hm.out 0
    have hf2 := blk_frozen Ho.out 0
    by_cases c1 : 8 ≤ m'
    · have c1b : decide (8 ≤ m') = true := decide_eq_true c1
      have HK2 := Aside0.mk (show putL k' (Go.bits .and .i64 b' (wrap64 (wrap64 (2 ^ (m' - 8).toNat) - 1))) (m' - 8) (out' ++ [IntKind.u8.wrap (b' / 2 ^ (m' - 8).toNat)]) = some (rb, rm, rout) from by have h_ := HK.out; rw [putL, if_pos c1] at h_; exact h_)
      clear HK
      have hlo := HM.out
      go_wp2
      replace Hb : Aside0 ((wr.setCell ⟨gm, 0, none⟩ (.int .i64 (m' - 8))).heap[gb]? = some (.cells #[.int .i64 b'] 3 (0, 0))) := ⟨blk_far Hb.out (p := ⟨gm, 0, none⟩) hne1 _⟩
      replace Ho : Aside0 ((wr.setCell ⟨gm, 0, none⟩ (.int .i64 (m' - 8))).heap[go]? = some (.cells #[vo'] 23 (0, 0))) := ⟨blk_far Ho.out (p := ⟨gm, 0, none⟩) (Ne.symm hne3) _⟩
      replace Hr : Aside0 (Kd.R (Kd.int .u8) 5 (wr.setCell ⟨gm, 0, none⟩ (.int .i64 (m' - 8))) w0.heap.size (fun _ => True) vo' out') := ⟨Kd.R_set Hr.out Hm.out (by decide) 0 _⟩
      replace Hm : Aside0 ((wr.setCell ⟨gm, 0, none⟩ (.int .i64 (m' - 8))).heap[gm]? = some (.cells #[.int .i64 (m' - 8)] 3 (0, 0))) := ⟨blk_put Hm.out 0 _ rfl⟩
      replace HB : Aside0 (Below w0.heap.size w0 (wr.setCell ⟨gm, 0, none⟩ (.int .i64 (m' - 8)))) := ⟨below_set HB.out hgm⟩
      generalize wr.setCell ⟨gm, 0, none⟩ (.int .i64 (m' - 8)) = w3 at Hb Hm Ho Hr HB ⊢
      clear hx0 hx1 hx2 hf0 hf1 hf2
      have hx0 := (blk_cell Hb.out 0).trans (show (#[Value.int .i64 b'])[0]? = some (.int .i64 b') from rfl)
      have hx1 := (blk_cell Hm.out 0).trans (show (#[Value.int .i64 (m' - 8)])[0]? = some (.int .i64 (m' - 8)) from rfl)
      have hx2 := (blk_cell Ho.out 0).trans (show (#[vo'])[0]? = some vo' from rfl)
      have hf2 := blk_frozen Ho.out 0
      have hl0 := World.block_lt_of_cell? w3 _ hx0
      have hl1 := World.block_lt_of_cell? w3 _ hx1
      have hl2 := World.block_lt_of_cell? w3 _ hx2
      go_region_law? (refine append_byte (w0 := w0) (W := w3) w0.heap.size (.tmp 19) (.tmp 24) ?ah rfl vo' out' (IntKind.u8.wrap (b' / 2 ^ (m' - 8).toNat)) ?a1 ?a2 Hr.out HB.out (below_size HB.out) ?aL ?_; (case ah => rfl); (case a1 => simp [Act.eval, Act.put]); (case a2 => simp [Act.eval, Act.put]); (case aL => (have := HL.out; omega)); intro v1 w1 ho_ hb_ hg_; obtain ⟨Av, cv, rfl⟩ := Kd.R_slice ho_; have n0_ := Aside0.mk (blk_grown (by (with_reducible repeat (first | apply blk_alloc | apply blk_drewN | apply blk_drew)); exact Hb.out) hg_ (Kd.R_ne Hr.out Hb.out (by decide))); have n1_ := Aside0.mk (blk_grown (by (with_reducible repeat (first | apply blk_alloc | apply blk_drewN | apply blk_drew)); exact Hm.out) hg_ (Kd.R_ne Hr.out Hm.out (by decide))); have n2_ := Aside0.mk (blk_grown (by (with_reducible repeat (first | apply blk_alloc | apply blk_drewN | apply blk_drew)); exact Ho.out) hg_ (Kd.R_ne Hr.out Ho.out (by decide))); have n3_ := Aside0.mk ho_; have n4_ := Aside0.mk hb_; clear Hb Hm Ho Hr HB hx0 hx1 hx2 hf2 hl0 hl1 hl2 ho_ hb_ hg_; have Hb := n0_; have Hm := n1_; have Ho := n2_; have Hr := n3_; have HB := n4_; clear n0_ n1_ n2_ n3_ n4_; have hx2 := (blk_cell Ho.out 0).trans (show (#[vo'])[0]? = some vo' from rfl); have hf2 := blk_frozen Ho.out 0)
      all_goals (try simp only [List.getElem_toArray, List.getElem_cons_succ, List.getElem_cons_zero, Act.put, List.setIfInBounds_toArray, List.set_cons_zero, List.set_cons_succ])
      all_goals (try go_wp2)
      all_goals (
        have Hb2 : Aside0 ((w1.setCell ⟨go, 0, none⟩ (.slice Av (out'.length + 1) cv)).heap[gb]? = some (.cells #[.int .i64 b'] 3 (0, 0))) := ⟨blk_far Hb.out (p := ⟨go, 0, none⟩) hne2 _⟩
        have Hm2 : Aside0 ((w1.setCell ⟨go, 0, none⟩ (.slice Av (out'.length + 1) cv)).heap[gm]? = some (.cells #[.int .i64 (m' - 8)] 3 (0, 0))) := ⟨blk_far Hm.out (p := ⟨go, 0, none⟩) hne3 _⟩
        have Ho2 : Aside0 ((w1.setCell ⟨go, 0, none⟩ (.slice Av (out'.length + 1) cv)).heap[go]? = some (.cells #[.slice Av (out'.length + 1) cv] 23 (0, 0))) := ⟨blk_put Ho.out 0 _ rfl⟩
        have Hr2 : Aside0 (Kd.R (Kd.int .u8) 5 (w1.setCell ⟨go, 0, none⟩ (.slice Av (out'.length + 1) cv)) w0.heap.size (fun _ => True) (.slice Av (out'.length + 1) cv) (out' ++ [IntKind.u8.wrap (b' / 2 ^ (m' - 8).toNat)])) := ⟨by have h_ := Hr.out; rw [List.length_append, List.length_singleton] at h_; exact Kd.R_set h_ Ho.out (by decide) 0 _⟩
        have HB2 : Aside0 (Below w0.heap.size w0 (w1.setCell ⟨go, 0, none⟩ (.slice Av (out'.length + 1) cv))) := ⟨below_set HB.out hgo⟩
        generalize w1.setCell ⟨go, 0, none⟩ (.slice Av (out'.length + 1) cv) = w4 at Hb2 Hm2 Ho2 Hr2 HB2 ⊢
        clear hx2 hf2 Hb Hm Ho Hr HB
        have hx0 := (blk_cell Hb2.out 0).trans (show (#[Value.int .i64 b'])[0]? = some (.int .i64 b') from rfl)
        have hx1 := (blk_cell Hm2.out 0).trans (show (#[Value.int .i64 (m' - 8)])[0]? = some (.int .i64 (m' - 8)) from rfl)
        have hf0 := blk_frozen Hb2.out 0
        go_region
        try go_wp2
        go_roundg k'
        case measure => omega
        case rel => exact ⟨(Go.bits .and .i64 b' (wrap64 (wrap64 (2 ^ (m' - 8).toNat) - 1))), m' - 8, _, _, ⟨by have := HM.out; omega⟩, HK2, ⟨by have := HL.out; rw [List.length_append, List.length_singleton]; omega⟩, ⟨blk_drew (blk_put Hb2.out 0 _ rfl)⟩, ⟨blk_drew (blk_far Hm2.out (p := ⟨gb, 0, none⟩) (Ne.symm hne1) _)⟩, ⟨blk_drew (blk_far Ho2.out (p := ⟨gb, 0, none⟩) (Ne.symm hne2) _)⟩, ⟨Kd.R_drew (Kd.R_set Hr2.out Hb2.out (by decide) 0 _)⟩, ⟨below_drew1 (below_set HB2.out hgb)⟩⟩)
    · have c1b : decide (8 ≤ m') = false := decide_eq_false c1
      have HK2 := HK.out
      rw [putL, if_neg c1] at HK2
      simp only [Option.some.injEq, Prod.mk.injEq] at HK2
      obtain ⟨rfl, rfl, rfl⟩ := HK2
      go_wp2
      go_end0
      exact ⟨rfl, Hb.out, Hm.out, ⟨_, Ho.out, Hr.out⟩, HB.out⟩

/-! ### impl_PackBits: function 30 (by hand) -/
def packL : List S41 → Int → Int → List Int → Option (Int × Int × List Int)
  | [], b, m, out => some (b, m, out)
  | f :: l, b, m, out => if 0 ≤ f.f0 ∧ f.f0 ≤ 16 ∧ 0 ≤ m ∧ m ≤ 7 ∧ out.length ≤ 1048576 then ((putL 4 (Go.bits .or .i64 (wrap64 (b * 2 ^ f.f0.toNat)) f.f1) (m + f.f0) out).bind fun s => packL l s.1 s.2.1 s.2.2) else none
def packE (s : Int × Int × List Int) : Option (List Int) := if s.2.1 > 0 then (if s.2.1 ≤ 7 ∧ s.2.2.length ≤ 1048576 then ((putL 4 (Go.bits .or .i64 (wrap64 (s.1 * 2 ^ (8 - s.2.1).toNat)) (wrap64 (wrap64 (2 ^ (8 - s.2.1).toNat) - 1))) (s.2.1 + (8 - s.2.1)) s.2.2).bind fun q => some q.2.2) else none) else some s.2.2
theorem four_boxes (w : World) (o0 o1 o2 o3 : Obj) : ((((w.alloc o0).alloc o1).alloc o2).alloc o3).heap[w.heap.size]? = some o0 ∧ ((((w.alloc o0).alloc o1).alloc o2).alloc o3).heap[w.heap.size + 1]? = some o1 ∧ ((((w.alloc o0).alloc o1).alloc o2).alloc o3).heap[w.heap.size + 1 + 1]? = some o2 ∧ ((((w.alloc o0).alloc o1).alloc o2).alloc o3).heap[w.heap.size + 1 + 1 + 1]? = some o3 := by
  have s1 : (w.alloc o0).heap.size = w.heap.size + 1 := by simp
  have s2 : ((w.alloc o0).alloc o1).heap.size = w.heap.size + 1 + 1 := by rw [← s1]; simp
  have s3 : (((w.alloc o0).alloc o1).alloc o2).heap.size = w.heap.size + 1 + 1 + 1 := by rw [← s2]; simp
  refine ⟨blk_alloc (blk_alloc (blk_alloc (blk_new w o0) _) _) _, ?_, ?_, ?_⟩
  · rw [← s1]; exact blk_alloc (blk_alloc (blk_new _ o1) _) _
  · rw [← s2]; exact blk_alloc (blk_new _ o2) _
  · rw [← s3]; exact blk_new _ o3
theorem empty_row {W : World} {base g : Nat} (h : W.heap[g]? = some (.cells #[] 5 (0, 0))) (hb : base ≤ g) : Kd.R (Kd.int .u8) 5 W base (fun _ => True) (.slice (some ⟨g, 0, none⟩) 0 0) [] :=
  Kd.R_of_own (enc := Value.int .u8) ⟨rfl, .inr ⟨g, 0, #[], rfl, hb, h, Nat.le_refl _, Nat.zero_le _, rfl, rfl⟩⟩ (fun _ _ => trivial)
def impl_PackBits.f (k : Nat) (l0 : List S41) : Option (List Int) := (impl_FieldsOk.f k l0).bind fun t => if t = true then ((packL l0 0 0 []).bind packE) else some []
theorem impl_PackBits.mono : ∀ a0 k, LeO (impl_PackBits.f k a0) (impl_PackBits.f (k + 1) a0) := by
  intro a0 k
  unfold impl_PackBits.f
  exact LeO.bind (impl_FieldsOk.mono _ _) (fun _ => LeO.refl _)
set_option maxHeartbeats 8000000 in
set_option maxRecDepth 100000 in
theorem impl_PackBits.calls (k : Nat) (A0 : Option Addr) (c0 : Nat) (l0 : List S41) (r : List Int) (w : World) (hr0 : Kd.C k41 w A0 l0.length l0) (hc0 : l0.length ≤ c0) (h : impl_PackBits.f k l0 = some r) :
    Calls Try.prog 30 #[.slice A0 l0.length c0] w fun e w' => ∃ v0_ : Value, e = .returned (v0_) ∧ Kd.R (Kd.int .u8) 5 w' w.heap.size (fun _ => True) v0_ r ∧ Below w.heap.size w w' := by
  have HR0 := Aside0.mk hr0
  have HC0 := Aside0.mk hc0
  clear hr0 hc0
  have HB := Aside0.mk (Below.refl w.heap.size w)
  have hmf : ∀ (fn : Fn) (first cap : Array Value) (w : World), (Instr.makeFunc fn first cap).run Try.prog w = .ok (.func fn first cap) w := fun _ _ _ _ => rfl
  obtain ⟨t, A1, H⟩ := Option.bind_eq_some_iff.mp h
  have AF := Aside0.mk A1
  clear A1 h
  cases t with
  | false =>
    rw [if_neg (by simp)] at H
    obtain rfl := Option.some.inj H
    clear H
    go_enter Try.func30, Try.ntmps30
    go_wp2_with (first | (go_at_call 49; (with_reducible refine (impl_FieldsOk.calls k A0 c0 l0 false _ (by repeat (first | exact HR0.out | (with_reducible refine Kd.C_alloc ?_ _) | (with_reducible refine Kd.C_drewN ?_ _) | (with_reducible refine Kd.C_drew ?_))) HC0.out AF.out).mono ?_); rintro e w' ⟨rfl, hb'⟩; have HB2 := Aside0.mk hb'; clear HB hb'; have HB := HB2; clear HB2))
    go_ret
    exact ⟨_, rfl, Kd.R_nil _ _ _ _ _, HB.out⟩
  | true =>
    rw [if_pos rfl] at H
    obtain ⟨⟨rb, rm, ro⟩, A2, H2⟩ := Option.bind_eq_some_iff.mp H
    have AL := Aside0.mk A2
    have AE := Aside0.mk H2
    clear A2 H2 H
    go_enter Try.func30, Try.ntmps30
    go_wp2_with (first
      | (go_at_call 49; (with_reducible refine (impl_FieldsOk.calls k A0 c0 l0 true _ (by repeat (first | exact HR0.out | (with_reducible refine Kd.C_alloc ?_ _) | (with_reducible refine Kd.C_drewN ?_ _) | (with_reducible refine Kd.C_drew ?_))) HC0.out AF.out).mono ?_); rintro e w' ⟨rfl, hb'⟩; have HB2 := Aside0.mk hb'; clear HB hb'; have HB := HB2; clear HB2))
    obtain ⟨N, hN⟩ : ∃ N, N = w'.heap.size := ⟨_, rfl⟩
    have HN : Aside0 (w.heap.size ≤ N) := ⟨by rw [hN]; exact below_size HB.out⟩
    obtain ⟨f0, f1, f2, f3⟩ := four_boxes w' (.cells #[] 5) (.cells #[.slice (some ⟨w'.heap.size, 0, none⟩) 0 0] 23) (.cells #[.int .i64 0] 3) (.cells #[.int .i64 0] 3)
    have HB2 : Aside0 (Below w.heap.size w ((((w'.alloc (.cells #[] 5)).alloc (.cells #[.slice (some ⟨w'.heap.size, 0, none⟩) 0 0] 23)).alloc (.cells #[.int .i64 0] 3)).alloc (.cells #[.int .i64 0] 3))) := ⟨by repeat (first | exact HB.out | apply below_alloc)⟩
    generalize ((((w'.alloc (.cells #[] 5)).alloc (.cells #[.slice (some ⟨w'.heap.size, 0, none⟩) 0 0] 23)).alloc (.cells #[.int .i64 0] 3)).alloc (.cells #[.int .i64 0] 3)) = W1 at f0 f1 f2 f3 HB2 ⊢
    clear HB
    rw [← hN] at f0 f1 f2 f3 ⊢
    clear hN
    have Hr : Aside0 (Kd.R (Kd.int .u8) 5 W1 w.heap.size (fun _ => True) (.slice (some ⟨N, 0, none⟩) 0 0) []) := ⟨empty_row f0 HN.out⟩
    have Ho := Aside0.mk f1
    have Hb := Aside0.mk f2
    have Hm := Aside0.mk f3
    clear f0 f1 f2 f3
    have EZ := Aside0.mk (show (0 : Int) = ((0 : Nat) : Int) from rfl)
    go_loopg [16] l0.length (fun kq v16 w2 => ∃ (i : Nat) (b m : Int) (v : Value) (out : List Int), v16 = .int .i64 (i : Int) ∧ Aside0 (i + kq = l0.length) ∧ Aside0 (packL (l0.drop i) b m out = some (rb, rm, ro)) ∧ Aside0 (w2.heap[N + 1 + 1]? = some (.cells #[.int .i64 b] 3 (0, 0))) ∧ Aside0 (w2.heap[N + 1 + 1 + 1]? = some (.cells #[.int .i64 m] 3 (0, 0))) ∧ Aside0 (w2.heap[N + 1]? = some (.cells #[v] 23 (0, 0))) ∧ Aside0 (Kd.R (Kd.int .u8) 5 w2 w.heap.size (fun _ => True) v out) ∧ Aside0 (Below w.heap.size w w2))
    case atStart => exact ⟨0, 0, 0, _, [], rfl, ⟨by omega⟩, AL, Hb, Hm, Ho, Hr, HB2⟩
    case round =>
      clear Hr Ho Hb Hm HB2 EZ AL
      obtain ⟨i, b, m, v, out, rfl, HK, HL, Hb, Hm, Ho, Hr, HB⟩ := hrel
      by_cases c1 : i < l0.length
      · have c1b : decide ((i : Int) < (l0.length : Int)) = true := decide_eq_true (by omega)
        have c1c : decide ((0 : Int) ≤ (i : Int)) = true := decide_eq_true (by omega)
        obtain ⟨ad, e1, hx0, hx1⟩ := at_T41 (Kd.C_below HR0.out HB.out) (i : Int) (by omega) (by omega)
        cases e1
        rw [Int.toNat_natCast] at hx0 hx1
        have HL2 := HL.out
        rw [List.drop_eq_getElem_cons c1, packL] at HL2
        rw [show rd_T41 l0 (i : Int) = l0[i] from by simp [rd_T41, List.getD, c1]] at hx0 hx1
        obtain ⟨f, hf⟩ : ∃ f : S41, f = l0[i] := ⟨_, rfl⟩
        rw [← hf] at hx0 hx1 HL2
        clear hf HL
        by_cases hg : 0 ≤ f.f0 ∧ f.f0 ≤ 16 ∧ 0 ≤ m ∧ m ≤ 7 ∧ out.length ≤ 1048576
        · rw [if_pos hg] at HL2
          obtain ⟨⟨b2, m2, o2⟩, P1, P2⟩ := Option.bind_eq_some_iff.mp HL2
          have HP := Aside0.mk P1
          have HL := Aside0.mk P2
          have HG := Aside0.mk hg
          clear P1 P2 HL2 hg
          go_wp2_with (go_at_call 50; refine (put_walk (N + 1 + 1) (N + 1 + 1 + 1) (N + 1) b m f.f0 f.f1 v out w _ (by omega) (by omega) (by omega) (by (with_reducible repeat (first | apply blk_alloc | apply blk_drewN | apply blk_drew)); exact Hb.out) (by (with_reducible repeat (first | apply blk_alloc | apply blk_drewN | apply blk_drew)); exact Hm.out) (by (with_reducible repeat (first | apply blk_alloc | apply blk_drewN | apply blk_drew)); exact Ho.out) (by (with_reducible repeat (first | apply Kd.R_alloc | apply Kd.R_drewN | apply Kd.R_drew)); exact Hr.out) (by repeat (first | exact HB.out | apply below_alloc | apply pw_below_drewN | apply below_drew1)) (by have := HN.out; omega) (by have := HN.out; omega) (by have := HN.out; omega) HG.out.2.2.2.2 HG.out.1 HG.out.2.1 HG.out.2.2.1 HG.out.2.2.2.1 b2 m2 o2 HP.out).mono ?_; rintro e w3 ⟨rfl, q1, q2, ⟨v2, q3, q4⟩, q5⟩; have n1_ := Aside0.mk q1; have n2_ := Aside0.mk q2; have n3_ := Aside0.mk q3; have n4_ := Aside0.mk q4; have n5_ := Aside0.mk q5; clear Hb Hm Ho Hr HB q1 q2 q3 q4 q5; have Hb := n1_; have Hm := n2_; have Ho := n3_; have Hr := n4_; have HB := n5_; clear n1_ n2_ n3_ n4_ n5_)
          go_roundg (l0.length - (i + 1))
          case measure => have := HK.out; omega
          case rel =>
            have := HK.out
            have hmax := Kd.C_max HR0.out
            have e1 : wrap64 ((i : Int) + 1) = ((i + 1 : Nat) : Int) := by
              rw [w64 (by omega) (by omega)]
              omega
            exact ⟨i + 1, b2, m2, _, o2, by rw [e1], ⟨by omega⟩, HL, Hb, Hm, Ho, Hr, HB⟩
        · rw [if_neg hg] at HL2
          exact absurd HL2 (by simp)
      · have c1b : decide ((i : Int) < (l0.length : Int)) = false := decide_eq_false (by omega)
        have HL2 := HL.out
        rw [List.drop_eq_nil_of_le (by omega), packL] at HL2
        simp only [Option.some.injEq, Prod.mk.injEq] at HL2
        obtain ⟨rfl, rfl, rfl⟩ := HL2
        have hx0 := (blk_cell Hm.out 0).trans (show (#[Value.int .i64 m])[0]? = some (.int .i64 m) from rfl)
        have HE := AE.out
        unfold packE at HE
        simp only [] at HE
        by_cases c2 : m > 0
        · rw [if_pos c2] at HE
          have c2b : decide (0 < m) = true := decide_eq_true (by omega)
          by_cases c3 : m ≤ 7 ∧ out.length ≤ 1048576
          · rw [if_pos c3] at HE
            obtain ⟨⟨b2, m2, o2⟩, P1, P2⟩ := Option.bind_eq_some_iff.mp HE
            obtain rfl := Option.some.inj P2
            have HP := Aside0.mk P1
            clear P1 P2 HE
            have e8 : (0 ≤ 8 - m) = True := eq_true (by omega)
            have hw8 : IntKind.i64.wrap (8 - m) = 8 - m := (i64_w _).trans (w64 (by omega) (by omega))
            have HP2 : Aside0 (putL 4 (Go.bits .or .i64 (wrap64 (b * 2 ^ (8 - m).toNat)) (IntKind.i64.wrap (IntKind.i64.wrap (2 ^ (8 - m).toNat) - 1))) (m + (8 - m)) out = some (b2, m2, o2)) := ⟨by rw [i64_w, i64_w]; exact HP.out⟩
            clear HP
            have HM := Aside0.mk c2
            have HG := Aside0.mk c3
            go_wp2
            go_region_with (refine (put_walk (N + 1 + 1) (N + 1 + 1 + 1) (N + 1) b m (8 - m) (IntKind.i64.wrap (IntKind.i64.wrap (2 ^ (8 - m).toNat) - 1)) v out w wr.drew (by omega) (by omega) (by omega) (blk_drew Hb.out) (blk_drew Hm.out) (blk_drew Ho.out) (Kd.R_drew Hr.out) (below_drew1 HB.out) (by have := HN.out; omega) (by have := HN.out; omega) (by have := HN.out; omega) HG.out.2 (by have := HG.out.1; omega) (by have := HM.out; omega) (by have := HM.out; omega) HG.out.1 b2 m2 o2 HP2.out).mono ?_; rintro e w3 ⟨rfl, q1, q2, ⟨v2, q3, q4⟩, q5⟩; have n3_ := Aside0.mk q3; have n4_ := Aside0.mk q4; have n5_ := Aside0.mk q5; clear Hb Hm Ho Hr HB q1 q2 q3 q4 q5; have Ho := n3_; have Hr := n4_; have HB := n5_; clear n3_ n4_ n5_; have hx1 := (blk_cell Ho.out 0).trans (show (#[v2])[0]? = some v2 from rfl))
            all_goals (try go_wp2)
            all_goals go_ret
            all_goals exact ⟨_, rfl, Hr.out, HB.out⟩
          · rw [if_neg c3] at HE
            exact absurd HE (by simp)
        · rw [if_neg c2] at HE
          obtain rfl := Option.some.inj HE
          have c2b : decide (0 < m) = false := decide_eq_false (by omega)
          have hx1 := (blk_cell Ho.out 0).trans (show (#[v])[0]? = some v from rfl)
          go_wp2
          go_ret
          exact ⟨_, rfl, Hr.out, HB.out⟩
theorem orP (a v : Int) (n : Nat) (ha : 0 ≤ a) (hv : 0 ≤ v) (hv2 : v < 2 ^ n) (hb : a * 2 ^ n + v < 1152921504606846976) : Go.bits .or .i64 (wrap64 (a * 2 ^ n)) v = a * 2 ^ n + v := by
  have hp := powP n
  have h0 : 0 ≤ a * 2 ^ n := Int.mul_nonneg ha (by omega)
  rw [w64 (by omega) (by omega)]
  obtain ⟨A, rfl⟩ := Int.eq_ofNat_of_zero_le ha
  obtain ⟨V, rfl⟩ := Int.eq_ofNat_of_zero_le hv
  have e : ((A : Int) * 2 ^ n) = ((2 ^ n * A : Nat) : Int) := by push_cast; rw [Int.mul_comm]
  have hV : V < 2 ^ n := by
    have h5 : ((2 ^ n : Nat) : Int) = 2 ^ n := by simp
    omega
  rw [e] at hb h0 ⊢
  have h1 : (BitVec.ofInt 64 ((2 ^ n * A : Nat) : Int)).toNat = 2 ^ n * A := by
    rw [BitVec.ofInt_natCast, BitVec.toNat_ofNat]; exact Nat.mod_eq_of_lt (by omega)
  have h2 : (BitVec.ofInt 64 (V : Int)).toNat = V := by
    rw [BitVec.ofInt_natCast, BitVec.toNat_ofNat]; exact Nat.mod_eq_of_lt (by omega)
  show IntKind.i64.wrap ((BitVec.ofInt 64 ((2 ^ n * A : Nat) : Int) ||| BitVec.ofInt 64 (V : Int)).toNat : Int) = _
  rw [BitVec.toNat_or, h1, h2, ← Nat.two_pow_add_eq_or_of_lt hV, i64_w, w64 (by omega) (by omega)]
  omega
theorem vl_split {p : List Bool} (h : 8 ≤ p.length) : vl p p.length = vl p 8 * 2 ^ (p.length - 8) + vl (p.drop 8) (p.length - 8) := by
  have := vl_add p 8 (p.length - 8)
  rw [show 8 + (p.length - 8) = p.length from by omega] at this
  exact this
theorem putL_ok : ∀ (k : Nat) (p : List Bool) (out : List Int), p.length < 8 * k → p.length ≤ 40 → ∃ (q : List Bool) (out' : List Int), putL k (vl p p.length) (p.length : Int) out = some (vl q q.length, (q.length : Int), out') ∧ q.length ≤ 7 ∧ 8 * out'.length + q.length = 8 * out.length + p.length ∧ ∀ S, out ++ packB (p ++ S) = out' ++ packB (q ++ S) := by
  intro k
  induction k with
  | zero => intro p out h; omega
  | succ k ih =>
    intro p out h h40
    rw [putL]
    by_cases h8 : 8 ≤ p.length
    · rw [if_pos (by omega), show ((p.length : Int) - 8).toNat = p.length - 8 from by omega]
      have hp := powP (p.length - 8)
      have hq := powQ (p.length - 8) (by omega)
      have r0 := vl_range p 8
      have r1 := vl_range (p.drop 8) (p.length - 8)
      have r2 := vl_range p p.length
      have r3 := powQ p.length h40
      have sp := vl_split h8
      have e1 : vl p p.length / 2 ^ (p.length - 8) = vl p 8 := by
        rw [sp, Int.add_comm, Int.add_mul_ediv_right _ _ (by omega), Int.ediv_eq_zero_of_lt r1.1 r1.2, Int.zero_add]
      have e2 : vl p p.length % 2 ^ (p.length - 8) = vl (p.drop 8) (p.length - 8) := by
        rw [sp, Int.add_comm, Int.add_mul_emod_self_right, Int.emod_eq_of_lt r1.1 r1.2]
      rw [w64 (x := 2 ^ (p.length - 8)) (by omega) (by omega), w64 (by omega) (by omega)]
      rw [bits_mask .i64 62 (by decide) (fun n a b => by rw [IntKind.wrap_i64]; omega) (p.length - 8) (by omega) _ r2.1 (by omega), e1, e2, IntKind.wrap_u8, Int.emod_eq_of_lt r0.1 (show vl p 8 < 256 from r0.2)]
      have hd : (p.drop 8).length = p.length - 8 := List.length_drop ..
      obtain ⟨q, o2, g1, g2, g3, g4⟩ := ih (p.drop 8) (out ++ [vl p 8]) (by omega) (by omega)
      rw [hd] at g1 g3
      refine ⟨q, o2, ?_, g2, ?_, fun S => ?_⟩
      · rw [show (p.length : Int) - 8 = ((p.length - 8 : Nat) : Int) from by omega]
        exact g1
      · rw [g3, List.length_append, List.length_singleton]
        omega
      · rw [← g4 S, packB_cons (L := p ++ S) (by rw [List.length_append]; omega), vl_app p S 8 h8, List.drop_append_of_le_length h8, List.append_assoc]
        rfl
    · rw [if_neg (by omega)]
      exact ⟨p, out, rfl, by omega, rfl, fun _ => rfl⟩
theorem vl_put (p : List Bool) (n : Nat) (v : Int) (h0 : 0 ≤ v) (h1 : v < 2 ^ n) : vl (p ++ bitsN n v) (p.length + n) = vl p p.length * 2 ^ n + v := by
  rw [vl_add, vl_app p _ _ (Nat.le_refl _), List.drop_left, vl_bits, Int.emod_eq_of_lt h0 h1]
theorem packL_ok : ∀ (l : List S41) (p : List Bool) (out : List Int), l.all fldB = true → p.length ≤ 7 → 8 * out.length + p.length + (bitsL l).length ≤ 1000000 → ∃ (q : List Bool) (out' : List Int), packL l (vl p p.length) (p.length : Int) out = some (vl q q.length, (q.length : Int), out') ∧ q.length ≤ 7 ∧ out'.length ≤ 1000000 ∧ ∀ S, out ++ packB (p ++ (bitsL l ++ S)) = out' ++ packB (q ++ S) := by
  intro l
  induction l with
  | nil =>
    intro p out _ hp ho
    exact ⟨p, out, rfl, hp, by omega, fun _ => rfl⟩
  | cons f l ih =>
    intro p out ha hp ho
    simp only [List.all_cons, Bool.and_eq_true] at ha
    have hf := fld_iff.1 ha.1
    have e : bitsL (f :: l) = bitsN f.f0.toNat f.f1 ++ bitsL l := rfl
    rw [e, List.length_append, bitsN_len] at ho
    have r1 := vl_range p p.length
    have hq := powQ (p.length + f.f0.toNat) (by omega)
    have r2 := vl_range (p ++ bitsN f.f0.toNat f.f1) (p.length + f.f0.toNat)
    have hvp := vl_put p f.f0.toNat f.f1 hf.2.1 (by omega)
    rw [packL, if_pos ⟨hf.1.1, hf.1.2, by omega, by omega, by omega⟩, orP _ _ _ r1.1 hf.2.1 (by omega) (by omega), ← hvp]
    obtain ⟨q1, o1, g1, g2, g3, g4⟩ := putL_ok 4 (p ++ bitsN f.f0.toNat f.f1) out (by rw [List.length_append, bitsN_len]; omega) (by rw [List.length_append, bitsN_len]; omega)
    rw [List.length_append, bitsN_len] at g1 g3
    rw [show (p.length : Int) + f.f0 = ((p.length + f.f0.toNat : Nat) : Int) from by omega, g1]
    simp only [Option.bind_some]
    obtain ⟨q, o2, h1, h2, h3, h4⟩ := ih q1 o1 ha.2 g2 (by omega)
    refine ⟨q, o2, h1, h2, h3, fun S => ?_⟩
    rw [← h4 S, ← g4, e, List.append_assoc, List.append_assoc]
theorem packE_ok (q : List Bool) (out : List Int) (hq : q.length ≤ 7) (ho : out.length ≤ 1000000) : packE (vl q q.length, (q.length : Int), out) = some (out ++ packB q) := by
  unfold packE
  simp only []
  by_cases h : q.length = 0
  · rw [if_neg (by omega), List.eq_nil_of_length_eq_zero h, packB_nil, List.append_nil]
  · rw [if_pos (by omega), if_pos (by omega)]
    have hn : (8 - (q.length : Int)).toNat = 8 - q.length := by omega
    have hp := powP (8 - q.length)
    have hqq := powQ (8 - q.length) (by omega)
    have r1 := vl_range q q.length
    have r2 := vl_range q 8
    have e8 : vl q 8 = vl q q.length * 2 ^ (8 - q.length) + (2 ^ (8 - q.length) - 1) := by
      have := vl_add q q.length (8 - q.length)
      rw [show q.length + (8 - q.length) = 8 from by omega, List.drop_eq_nil_of_le (Nat.le_refl _), vl_nil] at this
      exact this
    rw [hn, w64 (x := 2 ^ (8 - q.length)) (by omega) (by omega), w64 (x := 2 ^ (8 - q.length) - 1) (by omega) (by omega), orP _ _ _ r1.1 (by omega) (by omega) (by omega), ← e8, show (q.length : Int) + (8 - q.length) = 8 from by omega]
    simp only [putL, Int.sub_self, Int.toNat_zero, Int.pow_zero, Int.ediv_one, if_pos (show (8 : Int) ≤ 8 from by omega), if_neg (show ¬ (8 : Int) ≤ 0 from by omega), Option.bind_some]
    rw [packB_cons (by omega), List.drop_eq_nil_of_le (by omega), packB_nil, IntKind.wrap_u8, Int.emod_eq_of_lt r2.1 (by omega)]
theorem iPackBits_f (l : List S41) (hl : l.length ≤ 1048576) : Ev (fun k => impl_PackBits.f k l) (packC l) := by
  unfold impl_PackBits.f packC
  refine evBind (iFields_f l hl) ?_
  by_cases h : fieldsB l = true
  · refine evCast (r := packB (bitsL l)) (evPos h (evConst ?_)) (if_pos h).symm
    simp only [fieldsB, Bool.and_eq_true, decide_eq_true_eq] at h
    have hbl := bitsL_len h.1
    obtain ⟨q, o, g1, g2, g3, g4⟩ := packL_ok l [] [] h.1 (by simp) (by simp; omega)
    have g1' : packL l 0 0 [] = some (vl q q.length, (q.length : Int), o) := g1
    rw [g1', Option.bind_some, packE_ok q o g2 g3]
    have := g4 []
    simp only [List.append_nil, List.nil_append] at this
    rw [this]
  · exact evCast (r := []) (evNeg h (Ev.now _)) (if_neg h).symm

/-! ### impl_CodeText: function 8 (by hand) -/
def textF (cs : List S41) : List Int → List S41 → Option (List S41)
  | [], fs => some fs
  | s :: ss, fs => if 0 ≤ s ∧ s ≤ (cs.length : Int) - 1 ∧ ¬ (rd_T41 cs s).f0 = 0 then textF cs ss (fs ++ [rd_T41 cs s]) else none
def impl_CodeText.f (k : Nat) (l0 l1 : List Int) : Option (List Int) := (impl_CodesOf.f k l0).bind fun cs => if (l1.length : Int) > 60000 then some [] else (textF cs l1 []).elim (some []) (impl_PackBits.f k)
theorem impl_CodeText.mono : ∀ a0 a1 k, LeO (impl_CodeText.f k a0 a1) (impl_CodeText.f (k + 1) a0 a1) := by
  intro a0 a1 k
  unfold impl_CodeText.f
  refine LeO.bind (impl_CodesOf.mono _ _) (fun cs => ?_)
  refine LeO.ite (LeO.refl _) ?_
  cases textF cs a1 [] with
  | none => exact LeO.refl _
  | some fs => exact impl_PackBits.mono _ _
theorem pack_nil {k : Nat} {r : List Int} (h : impl_PackBits.f k [] = some r) : r = [] := by
  unfold impl_PackBits.f at h
  obtain ⟨t, _, h2⟩ := Option.bind_eq_some_iff.mp h
  cases t with
  | false =>
    rw [if_neg (by simp)] at h2
    exact (Option.some.inj h2).symm
  | true =>
    rw [if_pos rfl] at h2
    simp only [packL, Option.bind_some, packE] at h2
    rw [if_neg (by simp)] at h2
    exact (Option.some.inj h2).symm
set_option maxHeartbeats 8000000 in
set_option maxRecDepth 100000 in
theorem impl_CodeText.calls (k : Nat) (A0 : Option Addr) (c0 : Nat) (l0 : List Int) (A1 : Option Addr) (c1 : Nat) (l1 : List Int) (r : List Int) (w : World) (hr0 : Kd.C (Kd.int .i64) w A0 l0.length l0) (hc0 : l0.length ≤ c0) (hr1 : Kd.C (Kd.int .i64) w A1 l1.length l1) (hc1 : l1.length ≤ c1) (h : impl_CodeText.f k l0 l1 = some r) :
    Calls Try.prog 8 #[.slice A0 l0.length c0, .slice A1 l1.length c1] w fun e w' => ∃ v0_ : Value, e = .returned (v0_) ∧ Kd.R (Kd.int .u8) 5 w' w.heap.size (fun _ => True) v0_ r ∧ Below w.heap.size w w' := by
  have HR0 := Aside0.mk hr0
  have HC0 := Aside0.mk hc0
  have HR1 := Aside0.mk hr1
  have HC1 := Aside0.mk hc1
  have hmax := Kd.C_max hr1
  clear hr0 hc0 hr1 hc1
  have HB := Aside0.mk (Below.refl w.heap.size w)
  obtain ⟨cs, A2, H⟩ := Option.bind_eq_some_iff.mp h
  have AC := Aside0.mk A2
  have AH := Aside0.mk H
  clear A2 H h
  go_enter Try.func8, Try.ntmps8
  go_wp2_with (first
    | (go_at_call 28; (refine (impl_CodesOf.calls k A0 c0 l0 cs _ (by repeat (first | exact HR0.out | (with_reducible refine Kd.C_alloc ?_ _) | (with_reducible refine Kd.C_drewN ?_ _) | (with_reducible refine Kd.C_drew ?_))) HC0.out AC.out).mono ?_); rintro e w3 ⟨v0, rfl, ho, hb⟩; obtain ⟨Ac, cc, rfl⟩ := Kd.R_slice ho; have HO := Aside0.mk (Kd.R_lower ho (below_size (by repeat (first | exact HB.out | apply below_alloc | apply pw_below_drewN | apply below_drew1)))); have HB2 := Aside0.mk (below_step (by repeat (first | exact HB.out | apply below_alloc | apply pw_below_drewN | apply below_drew1)) hb); clear HB hb ho; have HB := HB2; clear HB2)
    | ((with_reducible refine gate_dst (N := 11) rfl ?_); refine Kd.R_lit k41 _ 41 ?hg (N := 11) ?hd (xs := ([] : List S41)) (inner := []) (ok := fun _ => True) (okp := fun _ => True) ?hr ?hp (fun _ hk => hk) trivial (Below.refl _ _) (Nat.le_refl _) (by simp) ?_; (case hd => rfl); (case hg => rfl); (case hr => first | (go_simp; done) | (go_simp; rfl)); (case hp => exact (Reps.none _ _)); intro v11 w11 ho8 hb hg_ hnew_; clear hg_ hnew_; have n0_ := Aside0.mk (Kd.R_lower (Kd.R_new' ho8 (Kd.R_lt HO.out)) (below_size HB.out)); have n1_ := Aside0.mk (below_step HB.out hb); have n2_ := Aside0.mk (Kd.R_elder' HO.out (Kd.R_base ho8) hb); clear HO HB ho8 hb; have HF := n0_; have HB := n1_; have HO := n2_; clear n0_ n1_ n2_))
  cases Ac with
  | none =>
    have hnil : ∀ (w : World) (l c : Nat), (binOp .eql 37 (.slice none l c) (.slice none 0 0)).run Try.prog w = .ok (.bool true) w := fun w l c => Go.Lib.run_eql_slice_nil w _ _ none l c 0 0 Try.underlying37
    have hcs : cs = [] := by
      rcases Nat.eq_zero_or_pos cs.length with h0 | h0
      · exact List.eq_nil_of_length_eq_zero h0
      · obtain ⟨a_, c_, e_⟩ := Kd.R_slice1 HO.out h0
        cases e_
    have hr : r = [] := by
      have H := AH.out
      rw [hcs] at H
      by_cases c6 : (l1.length : Int) > 60000
      · rw [if_pos c6] at H
        exact (Option.some.inj H).symm
      · rw [if_neg c6] at H
        cases l1 with
        | nil => exact pack_nil H
        | cons s ss =>
          rw [textF, if_neg (by simp only [List.length_nil]; omega)] at H
          exact (Option.some.inj H).symm
    subst hr
    go_wp2
    rw [hnil]
    go_wp2
    go_ret
    exact ⟨_, rfl, Kd.R_nil _ _ _ _ _, HB.out⟩
  | some ad =>
    have hnil : ∀ (w : World) (l c : Nat), (binOp .eql 37 (.slice (some ad) l c) (.slice none 0 0)).run Try.prog w = .ok (.bool false) w := fun w l c => Go.Lib.run_eql_slice_nil w _ _ (some ad) l c 0 0 Try.underlying37
    by_cases c6 : (l1.length : Int) > 60000
    · have c6b : decide (60000 < (l1.length : Int)) = true := decide_eq_true c6
      have H := AH.out
      rw [if_pos c6] at H
      obtain rfl := Option.some.inj H
      clear H
      go_wp2
      rw [hnil]
      go_wp2
      go_ret
      exact ⟨_, rfl, Kd.R_nil _ _ _ _ _, HB.out⟩
    · have c6b : decide (60000 < (l1.length : Int)) = false := decide_eq_false c6
      have AT : Aside0 ((textF cs (l1.drop 0) []).elim (some []) (impl_PackBits.f k) = some r) := ⟨by have H := AH.out; rw [if_neg c6] at H; exact H⟩
      have HL : Aside0 (l1.length ≤ 60000) := ⟨by omega⟩
      clear AH
      go_wp2
      clear hnil c6 c6b
      have EZ := Aside0.mk (show (0 : Int) = ((0 : Nat) : Int) from rfl)
      go_loopg [6, 21] l1.length (fun kq v6 v21 w2 => ∃ (i : Nat) (fs : List S41), v21 = .int .i64 (i : Int) ∧ Aside0 (i + kq = l1.length) ∧ Aside0 (fs.length = i) ∧ Aside0 ((textF cs (l1.drop i) fs).elim (some []) (impl_PackBits.f k) = some r) ∧ Aside0 (Kd.R k41 41 w2 w.heap.size (fun k_ => some k_ ≠ v6.ownBlock) (.slice (some ad) cs.length cc) cs) ∧ Aside0 (Kd.R k41 41 w2 w.heap.size (fun k_ => some k_ ≠ (.slice (some ad) cs.length cc : Value).ownBlock) v6 fs) ∧ Aside0 (Below w.heap.size w w2))
      case atStart => exact ⟨0, [], rfl, ⟨by omega⟩, ⟨rfl⟩, AT, ⟨Kd.R_mono HO.out (fun _ hk => hk.2)⟩, ⟨Kd.R_mono HF.out (fun _ hk => hk.2)⟩, HB⟩
      case round =>
        clear AT HO HF HB EZ
        obtain ⟨i, fs, rfl, HK, HI, AT, HO, HF, HB⟩ := hrel
        by_cases c1 : i < l1.length
        · have c1b : decide ((i : Int) < (l1.length : Int)) = true := decide_eq_true (by omega)
          have c1c : decide ((0 : Int) ≤ (i : Int)) = true := decide_eq_true (by omega)
          obtain ⟨ad1, e1, hx0⟩ := Kd.at_int HR1.out (i : Int) (by omega) (by omega)
          cases e1
          replace hx0 := (HB.out.cell (World.block_lt_of_cell? w _ hx0)).trans hx0
          have H := AT.out
          rw [List.drop_eq_getElem_cons c1, textF] at H
          rw [Int.toNat_natCast, rd_nat c1] at hx0
          obtain ⟨s, hs⟩ : ∃ s : Int, s = l1[i] := ⟨_, rfl⟩
          rw [← hs] at hx0 H
          clear hs AT
          by_cases c2 : 0 ≤ s ∧ s ≤ (cs.length : Int) - 1
          · have HS : Aside0 (0 ≤ s ∧ s < (cs.length : Int)) := ⟨⟨c2.1, by omega⟩⟩
            have hcm := Kd.C_max (Kd.R_reads' HO.out).2.2
            have HWI : Aside0 (impl_within.f s 0 (wrap64 ((cs.length : Int) - 1)) = some true) := ⟨by
              rw [w64 (by omega) (by omega)]
              unfold impl_within.f
              rw [if_pos (by omega), decide_eq_true (by omega)]⟩
            obtain ⟨x, hx⟩ : ∃ x : S41, x = rd_T41 cs s := ⟨_, rfl⟩
            have HX := Aside0.mk hx
            clear hx
            clear hcm
            by_cases c3 : x.f0 = 0
            · have c3b : (x.f0 == 0) = true := beq_iff_eq.mpr c3
              rw [if_neg (by rw [← HX.out]; exact fun h_ => h_.2.2 c3)] at H
              obtain rfl := Option.some.inj H
              clear H c2
              go_wp2_with (go_at_call 29; (with_reducible refine (impl_within.calls s 0 (wrap64 ((cs.length : Int) - 1)) true _ HWI.out).mono ?_); rintro e w4 ⟨rfl, ⟨nd, rfl⟩⟩; obtain ⟨ad5, e5, hx5, hx6⟩ := at_T41 (Kd.R_reads' HO.out).2.2 s HS.out.1 HS.out.2; cases e5; have p5 := eq_true HS.out.1; have q5 := eq_true HS.out.2; rw [← HX.out] at hx5 hx6)
              go_ret
              exact ⟨_, rfl, Kd.R_nil _ _ _ _ _, (by repeat (first | exact HB.out | apply below_alloc | apply pw_below_drewN | apply below_drew1))⟩
            · have c3b : (x.f0 == 0) = false := beq_eq_false_iff_ne.mpr c3
              rw [if_pos (by rw [← HX.out]; exact ⟨c2.1, c2.2, c3⟩)] at H
              rw [← HX.out] at H
              have AT := Aside0.mk H
              clear H c2
              go_wp2_with (first | (go_at_call 29; (with_reducible refine (impl_within.calls s 0 (wrap64 ((cs.length : Int) - 1)) true _ HWI.out).mono ?_); rintro e w4 ⟨rfl, ⟨nd, rfl⟩⟩; obtain ⟨ad5, e5, hx5, hx6⟩ := at_T41 (Kd.R_reads' HO.out).2.2 s HS.out.1 HS.out.2; cases e5; have p5 := eq_true HS.out.1; have q5 := eq_true HS.out.2; rw [← HX.out] at hx5 hx6) | ((with_reducible refine gate_builtin (b := .append) (xs := #[.tmp 39, .tmp 44]) rfl ?_); (try (refine gate_guard (by rfl) ?_; dsimp only)); at_builtin; refine Kd.R_append k41 (w0 := w) w.heap.size rfl (.tmp 39) (.tmp 44) 37 41 (.agg #[(.int .i64 0), (.int .i64 0)]) 16 rfl Try.underlying37 info41 rfl (by decide) (by omega) u6 fs (⟨x.f0, x.f1⟩ : S41) [.int .i64 x.f0, .int .i64 x.f1] (fun k_ => some k_ ≠ (.slice (some ad) cs.length cc : Value).ownBlock) (fun _ => False) rfl rfl ?aP (fun _ hk => hk.elim) ?aF ?aO ?aB ?aS ?aL ?_; (case aP => exact k41_mkM _ _ _ (⟨x.f0, x.f1⟩ : S41)); (case aB => exact (by repeat (first | exact HB.out | apply below_alloc | apply pw_below_drewN | apply below_drew1))); (case aF => exact (fun k_ hk => Kd.fresh' (Kd.R_lt (by (with_reducible repeat (first | apply Kd.R_alloc | apply Kd.R_drewN | apply Kd.R_drew)); exact HO.out)) k_ hk)); (case aO => exact (by (with_reducible repeat (first | apply Kd.R_alloc | apply Kd.R_drewN | apply Kd.R_drew)); exact HF.out)); (case aS => exact (below_size (by repeat (first | exact HB.out | apply below_alloc | apply pw_below_drewN | apply below_drew1)))); (case aL => have := HL.out; have := HI.out; omega); intro v2 w5 ho hb hg hat; have n0_ := Aside0.mk (Kd.R_after (ok := (fun _ => True)) (by (with_reducible repeat (first | apply Kd.R_alloc | apply Kd.R_drewN | apply Kd.R_drew)); exact Kd.R_mono HO.out (fun _ hk => ⟨trivial, hk⟩)) hg hat); have n1_ := Aside0.mk hb; have n2_ := Aside0.mk ho; clear HO HB HF; have HO := n0_; have HB := n1_; have HF := n2_; clear n0_ n1_ n2_; clear ho hb hg hat))
              go_roundg (l1.length - (i + 1))
              case measure => have := HK.out; omega
              case rel =>
                have := HK.out
                have := HI.out
                have := HL.out
                exact ⟨i + 1, fs ++ [x], by rw [Int.natCast_succ], ⟨by omega⟩, ⟨by rw [List.length_append, List.length_singleton]; omega⟩, AT, ⟨Kd.R_mono HO.out (fun _ hk => hk.2)⟩, HF, HB⟩
          · have hcm := Kd.C_max (Kd.R_reads' HO.out).2.2
            have HWI : Aside0 (impl_within.f s 0 (wrap64 ((cs.length : Int) - 1)) = some false) := ⟨by
              rw [w64 (by omega) (by omega)]
              unfold impl_within.f
              by_cases c4 : s ≥ 0
              · rw [if_pos c4, decide_eq_false (by omega)]
              · rw [if_neg c4]⟩
            rw [if_neg (fun h_ => c2 ⟨h_.1, h_.2.1⟩)] at H
            obtain rfl := Option.some.inj H
            clear H c2 hcm
            go_wp2_with (go_at_call 29; (with_reducible refine (impl_within.calls s 0 (wrap64 ((cs.length : Int) - 1)) false _ HWI.out).mono ?_); rintro e w4 ⟨rfl, ⟨nd, rfl⟩⟩)
            go_ret
            exact ⟨_, rfl, Kd.R_nil _ _ _ _ _, (by repeat (first | exact HB.out | apply below_alloc | apply pw_below_drewN | apply below_drew1))⟩
        · have c1b : decide ((i : Int) < (l1.length : Int)) = false := decide_eq_false (by omega)
          have HP := AT.out
          rw [List.drop_eq_nil_of_le (by omega), textF] at HP
          have HPK := Aside0.mk (show impl_PackBits.f k fs = some r from HP)
          clear HP AT
          obtain ⟨Af, cf, rfl⟩ := Kd.R_slice HF.out
          go_wp2_with (go_at_call 30; (with_reducible refine (impl_PackBits.calls k Af cf fs r _ (by (with_reducible repeat (first | apply Kd.C_alloc | apply Kd.C_drewN | apply Kd.C_drew)); exact (Kd.R_reads' HF.out).2.2) (Kd.R_reads' HF.out).2.1 HPK.out).mono ?_); rintro e w3 ⟨v0, rfl, ho, hb⟩; have n0_ := Aside0.mk (Kd.R_lower ho (below_size (by repeat (first | exact HB.out | apply below_alloc | apply pw_below_drewN | apply below_drew1)))); have n1_ := Aside0.mk (below_step (by repeat (first | exact HB.out | apply below_alloc | apply pw_below_drewN | apply below_drew1)) hb); clear HB ho hb; have HOO := n0_; have HB := n1_; clear n0_ n1_)
          go_ret
          exact ⟨_, rfl, HOO.out, HB.out⟩
def textC (x y : List Int) : List Int := if (y.length : Int) > 60000 then [] else (textF (codesL x) y []).elim [] packC
theorem textC_len (x y : List Int) : (textC x y).length ≤ 60000 := by
  unfold textC
  split
  · simp
  · cases textF (codesL x) y [] with
    | none => simp
    | some fs => exact packC_len fs
theorem textC_nil {x : List Int} (y : List Int) (h : codesL x = []) : textC x y = [] := by
  unfold textC
  split
  · rfl
  · rw [h]
    cases y with
    | nil => rfl
    | cons s ss =>
      rw [textF, if_neg (by simp only [List.length_nil]; omega)]
      rfl
theorem sText_l0 (x y : List Int) (hB : lensB x = true) (hy : y.length ≤ 60000) : ∀ (d i : Nat) (fs : List S41), i + d = y.length → fs.length = i → Ev (fun k => spec_CodeText.l0 k x y (codesL x) fs (i : Int)) ((textF (codesL x) (y.drop i) fs).elim [] packC) := by
  obtain ⟨n', hpre⟩ := codesL_pre hB
  have hlen := hpre.len
  have hx := lensB_len hB
  intro d
  induction d with
  | zero =>
    intro i fs hi hf
    refine Ev.step (fun k => by rw [spec_CodeText.l0]) (evNeg (by omega) ?_)
    rw [List.drop_eq_nil_of_le (by omega), textF]
    exact evBind (sPackBits_f fs (by omega)) (Ev.now _)
  | succ d ih =>
    intro i fs hi hf
    have hlt : i < y.length := by omega
    refine Ev.step (fun k => by rw [spec_CodeText.l0]) (evPos (by omega) (evPos (by omega) ?_))
    rw [List.drop_eq_getElem_cons hlt, rd_nat hlt, textF, w64 (by omega) (by omega), between_f]
    obtain ⟨s, hs⟩ : ∃ s, s = y[i] := ⟨_, rfl⟩
    rw [← hs]
    simp only [Option.bind_some]
    by_cases hc : inR s 0 ((x.length : Int) - 1) = true
    · have hc1 := inR_iff.1 hc
      obtain ⟨j, rfl⟩ := Int.eq_ofNat_of_zero_le hc1.1
      have hj : j < x.length := by omega
      have hz := hpre.f0 j
      have hr := lens_in hB j hj
      refine evPos hc (evPos hc1.1 (evPos (by omega) ?_))
      have hfg : fG (codesL x) j = rd_T41 (codesL x) (j : Int) := rfl
      rw [hfg] at hz
      by_cases h0 : rd x (j : Int) = 0
      · rw [if_neg (by omega)] at hz
        refine evPos h0 ?_
        rw [if_neg (fun h_ => h_.2.2 hz)]
        exact Ev.now _
      · rw [if_pos (by omega)] at hz
        refine evNeg h0 (evPos (by omega) (evPos (by omega) ?_))
        rw [if_pos (by rw [hz, hlen]; exact ⟨hc1.1, hc1.2, h0⟩), w64 (by omega) (by omega)]
        exact ih (i + 1) _ (by omega) (by rw [List.length_append, List.length_singleton]; omega)
    · refine evNeg hc ?_
      rw [if_neg (fun h_ => hc (inR_iff.2 ⟨h_.1, by rw [hlen] at h_; exact h_.2.1⟩))]
      exact Ev.now _
theorem sText_f (x y : List Int) : Ev (fun k => spec_CodeText.f k x y) (textC x y) := by
  unfold spec_CodeText.f
  refine evBind (sCodes_f x) ?_
  simp only [Option.bind_some]
  by_cases hB : lensB x = true
  · obtain ⟨n', hpre⟩ := codesL_pre hB
    have hlen := hpre.len
    have hx := lensB_len hB
    by_cases h0 : codesL x = []
    · refine evPos (by rw [h0]; rfl) (Ev.step (fun k => by rw [spec_CodeText.j0]) (evPos rfl ?_))
      rw [textC_nil y h0]
      exact Ev.now _
    · have h1 : 0 < (codesL x).length := List.length_pos_iff.2 h0
      refine evNeg (by omega) (Ev.step (fun k => by rw [spec_CodeText.j0]) ?_)
      unfold textC
      by_cases hy : (y.length : Int) > 60000
      · rw [if_pos hy]
        exact evPos (decide_eq_true hy) (Ev.now _)
      · rw [if_neg hy]
        exact evNeg (by rw [decide_eq_false hy]; simp) (sText_l0 x y hB (by omega) y.length 0 [] (by omega) rfl)
  · have h0 : codesL x = [] := by rw [codesL, if_neg hB]
    refine evPos (by rw [h0]; rfl) (Ev.step (fun k => by rw [spec_CodeText.j0]) (evPos rfl ?_))
    rw [textC_nil y h0]
    exact Ev.now _
theorem textF_len {cs : List S41} : ∀ {l : List Int} {a r : List S41}, textF cs l a = some r → r.length = a.length + l.length
  | [], a, r, h => by
    rw [textF] at h
    rw [← Option.some.inj h]
    rfl
  | s :: ss, a, r, h => by
    rw [textF] at h
    split at h
    · have := textF_len h
      rw [this, List.length_append, List.length_singleton, List.length_cons]
      omega
    · cases h
theorem iText_f (x y : List Int) (hx : x.length ≤ maxLen) : Ev (fun k => impl_CodeText.f k x y) (textC x y) := by
  unfold impl_CodeText.f textC
  refine evBind (iCodes_f x hx) ?_
  refine evIf (fun h => ?_) (fun h => ?_)
  · rw [if_pos h]
    exact Ev.now _
  · rw [if_neg h]
    cases hf : textF (codesL x) y [] with
    | none => exact Ev.now _
    | some fs =>
      have := textF_len hf
      exact iPackBits_f fs (by simp at this; omega)

end Go.Proofs.Ytgbfioolildbeaa.CT
