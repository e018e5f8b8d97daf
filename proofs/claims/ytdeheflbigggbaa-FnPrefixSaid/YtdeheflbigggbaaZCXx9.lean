/- Functions that a law of this seat reaches: written by a program of this session (wip/xprint.py), and by hand. -/
import Derived.Test.YtdeheflbigggbaaZCXx0
import Derived.Test.YtdeheflbigggbaaZCXx8
namespace Go.Proofs.Ytdeheflbigggbaa.CX
open Go.RowKit Go.Proofs.Ytdeheflbigggbaa.B Go.Proofs.YtdeheflbigggbaaW.PrintWords Go.Proofs.YtdeheflbigggbaaW.PrintLast Go.Proofs.YtdeheflbigggbaaW.PrintMore
attribute [local go_sem] max2_int min2_int max_two min_two max_three min_three max_four min_four   -- for this text's walks alone
set_option linter.unusedVariables false
set_option linter.unusedSimpArgs false

/-! ### spec_CodesOf: function 48 -/
mutual
def spec_CodesOf.l0 : Nat → List Int → List (S59) → Int → Int → Option ((List (S59)))
  | 0, _, _, _, _ => none
  | k + 1, x0, x3, x4, x5 => if x5 ≤ 16 then (spec_CodesOf.l1 k x0 x3 (wrap64 (2 * x4)) x5 0) else (some x3)
def spec_CodesOf.l1 : Nat → List Int → List (S59) → Int → Int → Int → Option ((List (S59)))
  | 0, _, _, _, _, _ => none
  | k + 1, x0, x3, x4, x5, x6 => if x6 < (x0.length : Int) then (if 0 ≤ x6 then (if (rd x0 x6) = x5 then (if x6 < (x3.length : Int) then (spec_CodesOf.l1 k x0 (x3.set (x6 : Int).toNat (⟨x5, x4⟩ : S59)) (wrap64 (x4 + 1)) x5 (wrap64 (x6 + 1))) else (none)) else (spec_CodesOf.l1 k x0 x3 x4 x5 (wrap64 (x6 + 1)))) else (none)) else (spec_CodesOf.l0 k x0 x3 x4 (wrap64 (x5 + 1)))
end
def spec_CodesOf.f (k : Nat) (l0 : List Int) : Option ((List (S59))) := (spec_LensOk.f k l0).bind fun t351 => (if t351 = true then (if 0 ≤ (l0.length : Int) then (if ((l0.length : Int) : Int).toNat ≤ 17592186044416 then (spec_CodesOf.l0 k l0 (List.replicate ((l0.length : Int) : Int).toNat z59) 0 1) else (none)) else (none)) else (some (([] : List (S59)))))
theorem spec_CodesOf.mono_l : ∀ k, (∀ y0 y1 y2 y3, LeO (spec_CodesOf.l0 k y0 y1 y2 y3) (spec_CodesOf.l0 (k + 1) y0 y1 y2 y3)) ∧ (∀ y0 y1 y2 y3 y4, LeO (spec_CodesOf.l1 k y0 y1 y2 y3 y4) (spec_CodesOf.l1 (k + 1) y0 y1 y2 y3 y4))
  | 0 => ⟨fun _ _ _ _ r h => by simp [spec_CodesOf.l0] at h, fun _ _ _ _ _ r h => by simp [spec_CodesOf.l1] at h⟩
  | k + 1 => by
    obtain ⟨ih0, ih1⟩ := spec_CodesOf.mono_l k
    refine ⟨?_, ?_⟩
    · intro y0 y1 y2 y3
      unfold spec_CodesOf.l0
      repeat' first
      | (with_reducible exact ih0 _ _ _ _)
      | (with_reducible exact ih1 _ _ _ _ _)
      | (with_reducible exact spec_LensOk.mono _ _)
      | (with_reducible exact LeO.refl _)
      | (with_reducible exact LeO.none _)
      | (with_reducible refine LeO.ite ?_ ?_)
      | (with_reducible refine LeO.bind ?_ (fun _ => ?_))
      | exact ih0 _ _ _ _
      | exact ih1 _ _ _ _ _
      | exact spec_LensOk.mono _ _
      | exact LeO.none _
      | refine LeO.ite ?_ ?_
      | refine LeO.bind ?_ (fun _ => ?_)
    · intro y0 y1 y2 y3 y4
      unfold spec_CodesOf.l1
      repeat' first
      | (with_reducible exact ih0 _ _ _ _)
      | (with_reducible exact ih1 _ _ _ _ _)
      | (with_reducible exact spec_LensOk.mono _ _)
      | (with_reducible exact LeO.refl _)
      | (with_reducible exact LeO.none _)
      | (with_reducible refine LeO.ite ?_ ?_)
      | (with_reducible refine LeO.bind ?_ (fun _ => ?_))
      | exact ih0 _ _ _ _
      | exact ih1 _ _ _ _ _
      | exact spec_LensOk.mono _ _
      | exact LeO.none _
      | refine LeO.ite ?_ ?_
      | refine LeO.bind ?_ (fun _ => ?_)
theorem spec_CodesOf.mono : ∀ a0 k, LeO (spec_CodesOf.f k a0) (spec_CodesOf.f (k + 1) a0) := by
  intro a0 k
  obtain ⟨ih0, ih1⟩ := spec_CodesOf.mono_l k
  unfold spec_CodesOf.f
  repeat' first
      | (with_reducible exact ih0 _ _ _ _)
      | (with_reducible exact ih1 _ _ _ _ _)
      | (with_reducible exact spec_LensOk.mono _ _)
      | (with_reducible exact LeO.refl _)
      | (with_reducible exact LeO.none _)
      | (with_reducible refine LeO.ite ?_ ?_)
      | (with_reducible refine LeO.bind ?_ (fun _ => ?_))
      | exact ih0 _ _ _ _
      | exact ih1 _ _ _ _ _
      | exact spec_LensOk.mono _ _
      | exact LeO.none _
      | refine LeO.ite ?_ ?_
      | refine LeO.bind ?_ (fun _ => ?_)
set_option maxHeartbeats 8000000 in
set_option maxRecDepth 100000 in
theorem spec_CodesOf.calls (k : Nat) (A0 : Option Addr) (c0 : Nat) (l0 : List Int) (r : List (S59)) (w : World) (hr0 : Kd.C (Kd.int .i64) w A0 l0.length l0) (hc0 : l0.length ≤ c0) (h : spec_CodesOf.f k l0 = some r) :
    Calls Try.prog 48 #[.slice A0 l0.length c0] w fun e w' => ∃ v0_ : Value, e = .returned (v0_) ∧ Kd.R k59 59 w' w.heap.size (fun _ => True) v0_ r ∧ Below w.heap.size w w' := by
  have hu59 := Try.underlying59
  have HR0 := Aside0.mk hr0
  have HC0 := Aside0.mk hc0
  clear hr0 hc0
  have HB := Aside0.mk (Below.refl w.heap.size w)
  have H : ((spec_LensOk.f k l0).bind fun t351 => (if t351 = true then (if 0 ≤ (l0.length : Int) then (if ((l0.length : Int) : Int).toNat ≤ 17592186044416 then (spec_CodesOf.l0 k l0 (List.replicate ((l0.length : Int) : Int).toNat z59) 0 1) else (none)) else (none)) else (some (([] : List (S59)))))) = some r := h
  clear h
  replace H := Option.bind_eq_some_iff.mp H
  obtain ⟨t351, A20, H⟩ := H
  replace H : (if t351 = true then (if 0 ≤ (l0.length : Int) then (if ((l0.length : Int) : Int).toNat ≤ 17592186044416 then (spec_CodesOf.l0 k l0 (List.replicate ((l0.length : Int) : Int).toNat z59) 0 1) else (none)) else (none)) else (some (([] : List (S59))))) = some r := H
  have A2 := Aside0.mk A20
  clear A20
  by_cases c3 : t351 = true
  · subst c3
    have H1 : (if 0 ≤ (l0.length : Int) then (if ((l0.length : Int) : Int).toNat ≤ 17592186044416 then (spec_CodesOf.l0 k l0 (List.replicate ((l0.length : Int) : Int).toNat z59) 0 1) else (none)) else (none)) = some r := by rw [if_pos rfl] at H; exact H
    clear H
    have H := H1
    clear H1
    by_cases c4 : 0 ≤ (l0.length : Int)
    · rw [if_pos c4] at H
      have c4b0 := eq_true c4
      have c4b1 : decide (0 ≤ (l0.length : Int)) = true := decide_eq_true c4
      clear c4
      by_cases c5 : ((l0.length : Int) : Int).toNat ≤ 17592186044416
      · rw [if_pos c5] at H
        have c5b0 := eq_true c5
        have c5b1 : decide (((l0.length : Int) : Int).toNat ≤ 17592186044416) = true := decide_eq_true c5
        clear c5
        obtain ⟨y355, hy355⟩ : ∃ y_ : List (S59), y_ = (List.replicate ((l0.length : Int) : Int).toNat z59) := ⟨_, rfl⟩
        replace H : (spec_CodesOf.l0 k l0 y355 0 1) = some r := by first | (rw [hy355]; with_reducible exact H) | (have H2_ := (Option.bind_some _ _).symm.trans H; rw [hy355]; with_reducible exact H2_) | (have H2_ := (Option.bind_some _ _).symm.trans H; with_reducible exact H2_) | with_reducible exact H | (rw [hy355]; exact H) | exact H
        have Ny355 := Aside0.mk hy355
        clear hy355
        have H' := Aside0.mk H
        clear H
        go_enter Try.func48, Try.ntmps48
        go_wp2_with (first | ((with_reducible refine gate_callee (f := 50) rfl ?_); refine goesL_ (some 8) rfl rfl Try.func50 (by kernel_rfl) rfl #[.slice A0 l0.length c0] rfl (by (try simp only [List.map_toArray, List.map_cons, List.map_nil]); first | done | rfl | (simp only [List.length_drop, List.length_take]; rfl)) ?_; (with_reducible refine (spec_LensOk.calls k _ _ l0 true _ ?side1 ?side2 A2.out).mono ?_); (case side1 => repeat (first | exact HR0.out | (with_reducible refine Kd.C_alloc ?_ _) | (with_reducible refine Kd.C_drewN ?_ _) | (with_reducible refine Kd.C_drew ?_))); (case side2 => exact HC0.out); rintro e w' ⟨rfl, ⟨nd, rfl⟩⟩; refine ⟨_, rfl, ?_⟩) | ((with_reducible refine gate_dst (N := 13) rfl ?_); refine Kd.R_make k59 _ 59 rfl (N := 13) rfl 55 _ _ rfl (l0.length : Int) rfl rfl Try.underlying55 (.agg #[(.int .i64 0), (.int .i64 0)]) 16 info59 rfl (by decide) (by omega) z59 (ok := fun _ => True) (okp := fun _ => True) (k59_mkM _ _ _ z59 ) (fun _ hk => hk) trivial (of_decide_eq_true (by first | (with_reducible assumption) | assumption)) (Nat.le_trans (Nat.mul_le_mul_right _ (of_decide_eq_true (by first | (with_reducible assumption) | assumption) : (l0.length : Int).toNat ≤ 17592186044416)) (by omega)) (Below.refl _ _) (Nat.le_refl _) ?_; intro v356 w6 ho7 hb hg_ hnew_; clear hg_ hnew_; (first | rw [← Ny355.out] at ho7 | (simp only [Int.reduceToNat] at ho7; rw [← Ny355.out] at ho7)); have n0_ := Aside0.mk (Kd.R_lower ho7 (below_size (by repeat (first | (with_reducible first | exact HB.out | apply below_alloc | apply pw_below_drewN | apply below_drew1) | exact HB.out)))); have n1_ := Aside0.mk (below_step (by repeat (first | (with_reducible first | exact HB.out | apply below_alloc | apply pw_below_drewN | apply below_drew1) | exact HB.out)) hb); clear HB; have HO357 := n0_; have HB := n1_; clear n0_ n1_; clear hb ho7))
        go_loopg [4, 5] k (fun kq v4 v5 w' => ∃ (x3_1 : List (S59)) (x4_1 : Int) (x5_1 : Int), v4 = .int .i64 x4_1 ∧ v5 = .int .i64 x5_1 ∧ Aside0 (spec_CodesOf.l0 kq l0 x3_1 x4_1 x5_1 = some r) ∧ Aside0 (kq ≤ k) ∧ Aside0 (Kd.R k59 59 w' w.heap.size (fun _ => True) v356 x3_1) ∧ Aside0 (Below w.heap.size w w'))
        case atStart => exact ⟨(y355), (0), (1), (by first | rfl | (simp; done) | (simp [*]; done)), (by first | rfl | (simp; done) | (simp [*]; done)), H', ⟨Nat.le_refl _⟩, ⟨by (with_reducible repeat (first | apply Kd.R_alloc | apply Kd.R_drewN | apply Kd.R_drew)); exact HO357.out⟩, ⟨by repeat (first | (with_reducible first | exact HB.out | apply below_alloc | apply pw_below_drewN | apply below_drew1) | exact HB.out)⟩⟩
        case round =>
          clear H'
          try clear p2
          try clear c3
          try clear c4
          try clear c4b0
          try clear c4b1
          try clear c5
          try clear c5b0
          try clear c5b1
          obtain ⟨x3_1, x4_1, x5_1, rfl, rfl, HA, HK1, HO_3, HB⟩ := hrel
          cases gk with
          | zero => exact absurd HA.out (by simp [spec_CodesOf.l0])
          | succ k1 =>
            have H := HA.out
            clear HA
            simp only [spec_CodesOf.l0] at H
            by_cases c8 : x5_1 ≤ 16
            · rw [if_pos c8] at H
              have c8b0 : decide (x5_1 ≤ 16) = true := decide_eq_true c8
              clear c8
              have H' := Aside0.mk H
              clear H
              go_wp2
              go_loopg [4, 6] k1 (fun kq v4 v6 w' => ∃ (x3_2 : List (S59)) (x4_2 : Int) (x6_2 : Int), v4 = .int .i64 x4_2 ∧ v6 = .int .i64 x6_2 ∧ Aside0 (spec_CodesOf.l1 kq l0 x3_2 x4_2 x5_1 x6_2 = some r) ∧ Aside0 (kq ≤ k1) ∧ Aside0 (Kd.R k59 59 w' w.heap.size (fun _ => True) v356 x3_2) ∧ Aside0 (Below w.heap.size w w'))
              case atStart => exact ⟨(x3_1), (wrap64 (2 * x4_1)), (0), (by first | rfl | (simp; done) | (simp [*]; done)), (by first | rfl | (simp; done) | (simp [*]; done)), H', ⟨Nat.le_refl _⟩, ⟨by (with_reducible repeat (first | apply Kd.R_alloc | apply Kd.R_drewN | apply Kd.R_drew)); exact HO_3.out⟩, ⟨by repeat (first | (with_reducible first | exact HB.out | apply below_alloc | apply pw_below_drewN | apply below_drew1) | exact HB.out)⟩⟩
              case round =>
                clear H'
                try clear p2
                try clear c3
                try clear c4
                try clear c4b0
                try clear c4b1
                try clear c5
                try clear c5b0
                try clear c5b1
                try clear p6
                try clear c8
                try clear c8b0
                try clear p2
                obtain ⟨x3_2, x4_2, x6_2, rfl, rfl, HA, HK2, HO_3, HB⟩ := hrel
                cases gk with
                | zero => exact absurd HA.out (by simp [spec_CodesOf.l1])
                | succ k2 =>
                  have H := HA.out
                  clear HA
                  simp only [spec_CodesOf.l1] at H
                  by_cases c9 : x6_2 < (l0.length : Int)
                  · rw [if_pos c9] at H
                    have c9b0 : decide (x6_2 < (l0.length : Int)) = true := decide_eq_true c9
                    clear c9
                    by_cases c10 : 0 ≤ x6_2
                    · rw [if_pos c10] at H
                      have c10b0 : decide (0 ≤ x6_2) = true := decide_eq_true c10
                      clear c10
                      by_cases c11 : (rd l0 x6_2) = x5_1
                      · rw [if_pos c11] at H
                        have c11b0 : ((rd l0 x6_2) == x5_1) = true := beq_iff_eq.mpr c11
                        have c11b1 : ((rd l0 x6_2) != x5_1) = false := bne_eq_false_iff_eq.mpr c11
                        clear c11
                        by_cases c12 : x6_2 < (x3_2.length : Int)
                        · rw [if_pos c12] at H
                          have c12b0 : decide (x6_2 < (x3_2.length : Int)) = true := decide_eq_true c12
                          clear c12
                          obtain ⟨y359, hy359⟩ : ∃ y_ : List (S59), y_ = (x3_2.set (x6_2 : Int).toNat (⟨x5_1, x4_2⟩ : S59)) := ⟨_, rfl⟩
                          replace H : (spec_CodesOf.l1 k2 l0 y359 (wrap64 (x4_2 + 1)) x5_1 (wrap64 (x6_2 + 1))) = some r := by first | (rw [hy359]; with_reducible exact H) | (have H2_ := (Option.bind_some _ _).symm.trans H; rw [hy359]; with_reducible exact H2_) | (have H2_ := (Option.bind_some _ _).symm.trans H; with_reducible exact H2_) | with_reducible exact H | (rw [hy359]; exact H) | exact H
                          have Ny359 := Aside0.mk hy359
                          clear hy359
                          have H' := Aside0.mk H
                          clear H
                          have p358 : 0 ≤ (x6_2 : Int) := of_decide_eq_true (by first | (with_reducible assumption) | assumption)
                          have q358 : x6_2 < (l0.length : Int) := of_decide_eq_true (by first | (with_reducible assumption) | assumption)
                          obtain ⟨ad358, e358, hx358_0⟩ := Kd.at_int HR0.out x6_2 p358 q358
                          cases e358
                          replace hx358_0 := (HB.out.cell (World.block_lt_of_cell? w _ hx358_0)).trans hx358_0
                          replace p358 := eq_true p358
                          replace q358 := eq_true q358
                          have p13 : 0 ≤ (x6_2 : Int) := of_decide_eq_true (by first | (with_reducible assumption) | assumption)
                          have q13 : (x6_2 : Int) < ((x3_2.length : Int) : Int) := of_decide_eq_true (by first | (with_reducible assumption) | assumption)
                          obtain ⟨go13, co13, eo13, gb13, gl13, cl13, HG13⟩ := Kd.R_form HO_3.out (by omega)
                          (first | cases eo13 | (injection eo13 with ea_ en_ ec_; (first | subst ea_ | (injection ea_ with ea_; subst ea_)); subst ec_; clear en_))
                          have GB13 := Aside0.mk gb13
                          have GG13 := Aside0.mk HG13
                          clear gb13 gl13 HG13
                          obtain ⟨ce13, hcl13, hM13, hcc13, hfr13⟩ := Kd.R_elem HO_3.out z59 (x6_2 : Int) p13 q13
                          obtain rfl := k59_openM hM13
                          have hx13_0 : wr.cell? ⟨go13, (x6_2 : Int).toNat * 2, none⟩ = some (.int .i64 ((rd_T59 x3_2 x6_2).f0)) := hcc13 0 _ rfl
                          have hx13_1 : wr.cell? ⟨go13, (x6_2 : Int).toNat * 2 + 1, none⟩ = some (.int .i64 ((rd_T59 x3_2 x6_2).f1)) := hcc13 1 _ rfl
                          have hf13_0 : wr.frozen? ⟨go13, (x6_2 : Int).toNat * 2, none⟩ = false := hfr13 0
                          have hf13_1 : wr.frozen? ⟨go13, (x6_2 : Int).toNat * 2 + 1, none⟩ = false := hfr13 1
                          (try clear hcl13); (try clear hcc13); (try clear hfr13); (try clear hM13)
                          replace p13 := eq_true p13
                          replace q13 := eq_true q13
                          have HX14 := Aside0.mk (show Kd.R k59 59 wr w.heap.size (fun _ => True) (.slice (some ⟨go13, 0, none⟩) x3_2.length co13) x3_2 from (by (with_reducible repeat (first | apply Kd.R_alloc | apply Kd.R_drewN | apply Kd.R_drew)); exact HO_3.out))
                          obtain ⟨ce14, hcl14, hM14, hcc14, hfr14⟩ := Kd.R_elem HX14.out z59 (x6_2 : Int) (of_decide_eq_true (by first | (with_reducible assumption) | assumption)) (by have h_ : (x6_2 : Int) < ((x3_2.length : Int) : Int) := of_decide_eq_true (by first | (with_reducible assumption) | assumption); first | exact h_ | (have e_ := (Kd.R_reads' HO_3.out).1; omega) | simpa using h_)
                          obtain rfl := k59_openM hM14
                          have HP14 := Kd.R_seg HX14.out (x6_2 : Int) (of_decide_eq_true (by first | (with_reducible assumption) | assumption)) (by have h_ : (x6_2 : Int) < ((x3_2.length : Int) : Int) := of_decide_eq_true (by first | (with_reducible assumption) | assumption); first | exact h_ | (have e_ := (Kd.R_reads' HO_3.out).1; omega) | simpa using h_) (seg := [.int .i64 x5_1, .int .i64 x4_2]) (j := 0) hcl14 hcc14 (show 2 ≤ 2 from by decide) (x' := (⟨x5_1, x4_2⟩ : S59)) (k59_mkM _ _ _ (⟨x5_1, x4_2⟩ : S59) ) (fun _ hk => hk)
                          have hx14_0 := hcc14 0 _ rfl
                          (try simp only [show (k59).sz = 2 from rfl, Nat.mul_one, Nat.add_zero] at hx14_0)
                          have hf14_0 := hfr14 0
                          (try simp only [show (k59).sz = 2 from rfl, Nat.mul_one, Nat.add_zero] at hf14_0)
                          have hx14_1 := hcc14 1 _ rfl
                          (try simp only [show (k59).sz = 2 from rfl, Nat.mul_one, Nat.add_zero] at hx14_1)
                          have hf14_1 := hfr14 1
                          (try simp only [show (k59).sz = 2 from rfl, Nat.mul_one, Nat.add_zero] at hf14_1)
                          (try clear hcl14); (try clear hcc14); (try clear hfr14); (try clear hM14)
                          go_wp2_with (first | ((with_reducible refine gate_store (t := 59) (p := 37) rfl ?_); refine store_event (t := 59) (p := 37) (v := ?vo_w15) (w1 := ((wr.setCell ⟨go13, (x6_2 : Int).toNat * 2, none⟩ (.int .i64 x5_1)).setCell ⟨go13, (x6_2 : Int).toNat * 2 + 1, none⟩ (.int .i64 x4_2))) ?hg ?ho ?hn ?hr ?_; (case ho => rfl); (case hg => rfl); (case hn => rfl); (case hr => first | (go_simp; done) | (go_simp; rfl)); intro w15 hw; have hg : wr.grownBy w15 (some go13) := (by rw [hw]; exact HP14.2); have hp_ : Kd.R k59 59 w15 w.heap.size (fun _ => True) (.slice (some ⟨go13, 0, none⟩) x3_2.length co13) y359 := (by rw [hw, Ny359.out]; exact HP14.1); clear HP14; have n0_ := Aside0.mk (hp_); have n1_ := Aside0.mk ((by rw [hw]; exact below_set (below_set (HB.out) GB13.out) GB13.out : Below w.heap.size w w15)); clear HO_3; clear HB; have HO_3 := n0_; have HB := n1_; clear n0_ n1_; clear hg hw hp_))
                          go_roundg k2
                          case measure => have := HK1.out; have := HK2.out; omega
                          case rel => exact ⟨(y359), (wrap64 (x4_2 + 1)), (wrap64 (x6_2 + 1)), (by first | rfl | (simp; done) | (simp [*]; done)), (by first | rfl | (simp; done) | (simp [*]; done)), H', ⟨by have := HK1.out; have := HK2.out; omega⟩, ⟨by (with_reducible repeat (first | apply Kd.R_alloc | apply Kd.R_drewN | apply Kd.R_drew)); exact HO_3.out⟩, ⟨by repeat (first | (with_reducible first | exact HB.out | apply below_alloc | apply pw_below_drewN | apply below_drew1) | exact HB.out)⟩⟩
                        · rw [if_neg c12] at H
                          exact absurd H (by simp)
                      · rw [if_neg c11] at H
                        have c11b0 : ((rd l0 x6_2) == x5_1) = false := beq_eq_false_iff_ne.mpr c11
                        have c11b1 : ((rd l0 x6_2) != x5_1) = true := bne_iff_ne.mpr c11
                        have H' := Aside0.mk H
                        clear H
                        have p358 : 0 ≤ (x6_2 : Int) := of_decide_eq_true (by first | (with_reducible assumption) | assumption)
                        have q358 : x6_2 < (l0.length : Int) := of_decide_eq_true (by first | (with_reducible assumption) | assumption)
                        obtain ⟨ad358, e358, hx358_0⟩ := Kd.at_int HR0.out x6_2 p358 q358
                        cases e358
                        replace hx358_0 := (HB.out.cell (World.block_lt_of_cell? w _ hx358_0)).trans hx358_0
                        replace p358 := eq_true p358
                        replace q358 := eq_true q358
                        go_wp2
                        go_roundg k2
                        case measure => have := HK1.out; have := HK2.out; omega
                        case rel => exact ⟨(x3_2), (x4_2), (wrap64 (x6_2 + 1)), (by first | rfl | (simp; done) | (simp [*]; done)), (by first | rfl | (simp; done) | (simp [*]; done)), H', ⟨by have := HK1.out; have := HK2.out; omega⟩, ⟨by (with_reducible repeat (first | apply Kd.R_alloc | apply Kd.R_drewN | apply Kd.R_drew)); exact HO_3.out⟩, ⟨by repeat (first | (with_reducible first | exact HB.out | apply below_alloc | apply pw_below_drewN | apply below_drew1) | exact HB.out)⟩⟩
                    · rw [if_neg c10] at H
                      exact absurd H (by simp)
                  · rw [if_neg c9] at H
                    have c9b0 : decide (x6_2 < (l0.length : Int)) = false := decide_eq_false c9
                    clear c9
                    have H' := Aside0.mk H
                    clear H
                    go_wp2
                    go_roundg k2
                    case measure => have := HK1.out; have := HK2.out; omega
                    case rel => exact ⟨(x3_2), (x4_2), (wrap64 (x5_1 + 1)), (by first | rfl | (simp; done) | (simp [*]; done)), (by first | rfl | (simp; done) | (simp [*]; done)), H', ⟨by have := HK1.out; have := HK2.out; omega⟩, ⟨by (with_reducible repeat (first | apply Kd.R_alloc | apply Kd.R_drewN | apply Kd.R_drew)); exact HO_3.out⟩, ⟨by repeat (first | (with_reducible first | exact HB.out | apply below_alloc | apply pw_below_drewN | apply below_drew1) | exact HB.out)⟩⟩
            · rw [if_neg c8] at H
              have c8b0 : decide (x5_1 ≤ 16) = false := decide_eq_false c8
              clear c8
              obtain rfl := Option.some.inj H
              go_wp2
              go_ret
              exact ⟨_, by first | rfl | (simp [errW_none, errW_some] <;> rfl) | (simp [*, errW_none, errW_some] <;> rfl), by (with_reducible repeat (first | apply Kd.R_alloc | apply Kd.R_drewN | apply Kd.R_drew)); exact HO_3.out, by repeat (first | (with_reducible first | exact HB.out | apply below_alloc | apply pw_below_drewN | apply below_drew1) | exact HB.out)⟩
      · rw [if_neg c5] at H
        exact absurd H (by simp)
    · rw [if_neg c4] at H
      exact absurd H (by simp)
  · replace c3 := Bool.eq_false_iff.mpr c3
    subst c3
    have H1 : (some (([] : List (S59)))) = some r := by rw [if_neg (show ¬ (false = true) by decide)] at H; exact H
    clear H
    have H := H1
    clear H1
    obtain ⟨y352, hy352⟩ : ∃ y_ : List (S59), y_ = (([] : List (S59))) := ⟨_, rfl⟩
    replace H : (some y352) = some r := by first | (rw [hy352]; with_reducible exact H) | (have H2_ := (Option.bind_some _ _).symm.trans H; rw [hy352]; with_reducible exact H2_) | (have H2_ := (Option.bind_some _ _).symm.trans H; with_reducible exact H2_) | with_reducible exact H | (rw [hy352]; exact H) | exact H
    have Ny352 := Aside0.mk hy352
    clear hy352
    obtain rfl := Option.some.inj H
    go_enter Try.func48, Try.ntmps48
    go_wp2_with (first | ((with_reducible refine gate_callee (f := 50) rfl ?_); refine goesL_ (some 8) rfl rfl Try.func50 (by kernel_rfl) rfl #[.slice A0 l0.length c0] rfl (by (try simp only [List.map_toArray, List.map_cons, List.map_nil]); first | done | rfl | (simp only [List.length_drop, List.length_take]; rfl)) ?_; (with_reducible refine (spec_LensOk.calls k _ _ l0 false _ ?side1 ?side2 A2.out).mono ?_); (case side1 => repeat (first | exact HR0.out | (with_reducible refine Kd.C_alloc ?_ _) | (with_reducible refine Kd.C_drewN ?_ _) | (with_reducible refine Kd.C_drew ?_))); (case side2 => exact HC0.out); rintro e w' ⟨rfl, ⟨nd, rfl⟩⟩; refine ⟨_, rfl, ?_⟩) | ((with_reducible refine gate_dst (N := 10) rfl ?_); refine Kd.R_lit k59 _ 59 ?hg (N := 10) ?hd (xs := ([] : List (S59))) (inner := []) (ok := fun _ => True) (okp := fun _ => True) ?hr ?hp (fun _ hk => hk) trivial (Below.refl _ _) (Nat.le_refl _) (by simp) ?_; (case hd => rfl); (case hg => rfl); (case hr => first | (go_simp; done) | (go_simp; rfl)); (case hp => exact (Reps.none _ _)); intro v353 w16 ho17 hb hg_ hnew_; clear hg_ hnew_; (first | rw [← Ny352.out] at ho17 | (simp only [Int.reduceToNat] at ho17; rw [← Ny352.out] at ho17)); have n0_ := Aside0.mk (Kd.R_lower ho17 (below_size (by repeat (first | (with_reducible first | exact HB.out | apply below_alloc | apply pw_below_drewN | apply below_drew1) | exact HB.out)))); have n1_ := Aside0.mk (below_step (by repeat (first | (with_reducible first | exact HB.out | apply below_alloc | apply pw_below_drewN | apply below_drew1) | exact HB.out)) hb); clear HB; have HO354 := n0_; have HB := n1_; clear n0_ n1_; clear hb ho17))
    go_ret
    exact ⟨_, by first | rfl | (simp [errW_none, errW_some] <;> rfl) | (simp [*, errW_none, errW_some] <;> rfl), by (with_reducible repeat (first | apply Kd.R_alloc | apply Kd.R_drewN | apply Kd.R_drew)); exact HO354.out, by repeat (first | (with_reducible first | exact HB.out | apply below_alloc | apply pw_below_drewN | apply below_drew1) | exact HB.out)⟩

/-- One level's row: from symbol s on, d of them. -/
def cRow (x : List Int) (l : Int) : Nat → Nat → List S59 → Int → List S59 × Int
  | 0, _, o, n => (o, n)
  | d + 1, s, o, n => if rd x (s : Int) = l then cRow x l d (s + 1) (o.set s ⟨l, n⟩) (n + 1) else cRow x l d (s + 1) o n
def cLev (x : List Int) : Nat → Int → List S59 → Int → List S59
  | 0, _, o, _ => o
  | d + 1, l, o, n => cLev x d (l + 1) (cRow x l x.length 0 o (2 * n)).1 (cRow x l x.length 0 o (2 * n)).2
def codesL (x : List Int) : List S59 := if lensB x = true then cLev x 16 1 (List.replicate x.length z59) 0 else []
theorem cRow_len (x : List Int) (l : Int) : ∀ (d s : Nat) (o : List S59) (n : Int), (cRow x l d s o n).1.length = o.length ∧ n ≤ (cRow x l d s o n).2 ∧ (cRow x l d s o n).2 ≤ n + d := by
  intro d
  induction d with
  | zero => intro s o n; simp [cRow]
  | succ d ih =>
    intro s o n
    simp only [cRow]
    split
    · have := ih (s + 1) (o.set s ⟨l, n⟩) (n + 1)
      rw [List.length_set] at this
      omega
    · have := ih (s + 1) o n
      omega
theorem sCodes_l1 (x : List Int) (l : Int) (hx : x.length ≤ 256) (hl0 : 1 ≤ l) (hl1 : l ≤ 16) {r : List S59} : ∀ (d s : Nat) (o : List S59) (n : Int), s + d = x.length → o.length = x.length → 0 ≤ n → n + d ≤ 1099511627776 →
    Ev (fun k => spec_CodesOf.l0 k x (cRow x l d s o n).1 (cRow x l d s o n).2 (l + 1)) r → Ev (fun k => spec_CodesOf.l1 k x o n l s) r := by
  intro d
  induction d with
  | zero =>
    intro s o n hd ho h0 h1 hr
    refine Ev.step (fun k => by rw [spec_CodesOf.l1]) (evNeg (by omega) ?_)
    rw [w64 (by omega) (by omega)]
    exact hr
  | succ d ih =>
    intro s o n hd ho h0 h1 hr
    refine Ev.step (fun k => by rw [spec_CodesOf.l1]) (evPos (by omega) (evPos (by omega) ?_))
    simp only [cRow] at hr
    rw [show (s : Int) + 1 = ((s + 1 : Nat) : Int) from by omega, w64n (by omega), Int.toNat_natCast]
    by_cases hc : rd x (s : Int) = l
    · rw [if_pos hc] at hr
      rw [w64 (by omega) (by omega)]
      exact evPos hc (evPos (by omega) (ih (s + 1) _ _ (by omega) (by simp [ho]) (by omega) (by omega) hr))
    · rw [if_neg hc] at hr
      exact evNeg hc (ih (s + 1) _ _ (by omega) ho h0 (by omega) hr)
theorem sCodes_l0 (x : List Int) (hx : x.length ≤ 256) : ∀ (d c : Nat) (o : List S59) (n : Int), d + c = 16 → o.length = x.length → 0 ≤ n → (n + 256) * 2 ^ d ≤ 1073741824 →
    Ev (fun k => spec_CodesOf.l0 k x o n ((c + 1 : Nat) : Int)) (cLev x d ((c + 1 : Nat) : Int) o n) := by
  intro d
  induction d with
  | zero =>
    intro c o n hd ho h0 h1
    refine Ev.step (fun k => by rw [spec_CodesOf.l0]) (evNeg (by omega) ?_)
    exact Ev.now _
  | succ d ih =>
    intro c o n hd ho h0 h1
    have hp0 : (0 : Int) < 2 ^ d := Int.pow_pos (by omega)
    have hp : (1 : Int) ≤ 2 ^ d := hp0
    rw [Int.pow_succ, Int.mul_comm (2 ^ d) 2, ← Int.mul_assoc] at h1
    have hn : (n + 256) * 2 * 1 ≤ (n + 256) * 2 * 2 ^ d := Int.mul_le_mul_of_nonneg_left hp (by omega)
    have hk := cRow_len x ((c + 1 : Nat) : Int) x.length 0 o (2 * n)
    refine Ev.step (fun k => by rw [spec_CodesOf.l0]) (evPos (by omega) ?_)
    rw [w64 (by omega) (by omega)]
    refine sCodes_l1 x _ hx (by omega) (by omega) x.length 0 o (2 * n) (by omega) ho (by omega) (by omega) ?_
    rw [show ((c + 1 : Nat) : Int) + 1 = ((c + 1 + 1 : Nat) : Int) from by omega]
    have := ih (c + 1) (cRow x ((c + 1 : Nat) : Int) x.length 0 o (2 * n)).1 (cRow x ((c + 1 : Nat) : Int) x.length 0 o (2 * n)).2 (by omega) (by omega) (by omega) (by
      have : ((cRow x ((c + 1 : Nat) : Int) x.length 0 o (2 * n)).2 + 256) * 2 ^ d ≤ (n + 256) * 2 * 2 ^ d := Int.mul_le_mul_of_nonneg_right (by omega) (by omega)
      omega)
    simp only [cLev]
    rw [show ((c + 1 : Nat) : Int) + 1 = ((c + 1 + 1 : Nat) : Int) from by omega]
    exact this
theorem lensB_len {x : List Int} (h : lensB x = true) : x.length ≤ 256 := by
  unfold lensB at h
  rw [Bool.and_eq_true] at h
  exact of_decide_eq_true h.1
theorem sCodes_f (x : List Int) : Ev (fun k => spec_CodesOf.f k x) (codesL x) := by
  unfold spec_CodesOf.f codesL
  refine evBind (sLens_f x) ?_
  by_cases h : lensB x = true
  · have hx := lensB_len h
    rw [if_pos h]
    refine evPos h (evPos (by omega) (evPos (by omega) ?_))
    exact sCodes_l0 x hx 16 0 _ 0 (by omega) (by simp) (by omega) (by decide)
  · rw [if_neg h]
    exact evNeg h (Ev.now _)

/-! ### impl_within: function 75 -/
def impl_within.f (a0 : Int) (a1 : Int) (a2 : Int) : Option (Bool) := if a0 ≥ a1 then (some (decide (a0 ≤ a2))) else (some false)
set_option maxHeartbeats 8000000 in
set_option maxRecDepth 100000 in
theorem impl_within.calls (a0 : Int) (a1 : Int) (a2 : Int) (r : Bool) (w : World) (h : impl_within.f a0 a1 a2 = some r) :
    Calls Try.prog 75 #[.int .i64 a0, .int .i64 a1, .int .i64 a2] w fun e w' => e = .returned (.bool r) ∧ Drawn0 w w' := by
  have H : (if a0 ≥ a1 then (some (decide (a0 ≤ a2))) else (some false)) = some r := h
  clear h
  by_cases c4 : a0 ≥ a1
  · rw [if_pos c4] at H
    have c4b0 : decide (a1 ≤ a0) = true := decide_eq_true c4
    clear c4
    obtain rfl := Option.some.inj H
    go_enter Try.func75, Try.ntmps75
    go_wp2
    go_ret
    exact ⟨by first | rfl | (simp; done) | (simp [*]; done), by repeat (first | exact Drawn0.refl _ | apply Drawn0.step)⟩
  · rw [if_neg c4] at H
    have c4b0 : decide (a1 ≤ a0) = false := decide_eq_false c4
    clear c4
    obtain rfl := Option.some.inj H
    go_enter Try.func75, Try.ntmps75
    go_wp2
    go_ret
    exact ⟨by first | rfl | (simp; done) | (simp [*]; done), by repeat (first | exact Drawn0.refl _ | apply Drawn0.step)⟩

theorem within_f (a b c : Int) : impl_within.f a b c = some (inR a b c) := inR_ite a b c

/-! ### impl_allWithin: function 71 -/
def impl_allWithin.l0 : Nat → Int → Int → List Int → Int → Int → Option (Bool)
  | 0, _, _, _, _, _ => none
  | k + 1, x1, x2, x9, x10, x11 => if x11 < x10 then (if 0 ≤ x11 then (if x11 < (x9.length : Int) then ((impl_within.f (rd x9 x11) x1 x2).bind fun t361 => (if t361 = true then (impl_allWithin.l0 k x1 x2 x9 x10 (wrap64 (x11 + 1))) else (some false))) else (none)) else (none)) else (some true)
def impl_allWithin.f (k : Nat) (l0 : List Int) (a1 : Int) (a2 : Int) : Option (Bool) := impl_allWithin.l0 k a1 a2 l0 (l0.length : Int) 0
theorem impl_allWithin.mono_l : ∀ k, (∀ y0 y1 y2 y3 y4, LeO (impl_allWithin.l0 k y0 y1 y2 y3 y4) (impl_allWithin.l0 (k + 1) y0 y1 y2 y3 y4))
  | 0 => fun _ _ _ _ _ r h => by simp [impl_allWithin.l0] at h
  | k + 1 => by
    have ih0 := impl_allWithin.mono_l k
    · intro y0 y1 y2 y3 y4
      unfold impl_allWithin.l0
      repeat' first
      | (with_reducible exact ih0 _ _ _ _ _)
      | (with_reducible exact LeO.refl _)
      | (with_reducible exact LeO.none _)
      | (with_reducible refine LeO.ite ?_ ?_)
      | (with_reducible refine LeO.bind ?_ (fun _ => ?_))
      | exact ih0 _ _ _ _ _
      | exact LeO.none _
      | refine LeO.ite ?_ ?_
      | refine LeO.bind ?_ (fun _ => ?_)
theorem impl_allWithin.mono : ∀ a0 a1 a2 k, LeO (impl_allWithin.f k a0 a1 a2) (impl_allWithin.f (k + 1) a0 a1 a2) := by
  intro a0 a1 a2 k
  have ih0 := impl_allWithin.mono_l k
  unfold impl_allWithin.f
  repeat' first
      | (with_reducible exact ih0 _ _ _ _ _)
      | (with_reducible exact LeO.refl _)
      | (with_reducible exact LeO.none _)
      | (with_reducible refine LeO.ite ?_ ?_)
      | (with_reducible refine LeO.bind ?_ (fun _ => ?_))
      | exact ih0 _ _ _ _ _
      | exact LeO.none _
      | refine LeO.ite ?_ ?_
      | refine LeO.bind ?_ (fun _ => ?_)
set_option maxHeartbeats 8000000 in
set_option maxRecDepth 100000 in
theorem impl_allWithin.calls (k : Nat) (A0 : Option Addr) (c0 : Nat) (l0 : List Int) (a1 : Int) (a2 : Int) (r : Bool) (w : World) (hr0 : Kd.C (Kd.int .i64) w A0 l0.length l0) (hc0 : l0.length ≤ c0) (h : impl_allWithin.f k l0 a1 a2 = some r) :
    Calls Try.prog 71 #[.slice A0 l0.length c0, .int .i64 a1, .int .i64 a2] w fun e w' => e = .returned (.bool r) ∧ Drawn0 w w' := by
  have HR0 := Aside0.mk hr0
  have HC0 := Aside0.mk hc0
  clear hr0 hc0
  have H : (impl_allWithin.l0 k a1 a2 l0 (l0.length : Int) 0) = some r := h
  clear h
  have H' := Aside0.mk H
  clear H
  go_enter Try.func71, Try.ntmps71
  go_wp2
  go_loopg [11] k (fun kq v11 w' => ∃ (x11_1 : Int), v11 = .int .i64 x11_1 ∧ Aside0 (impl_allWithin.l0 kq a1 a2 l0 (l0.length : Int) x11_1 = some r) ∧ Aside0 (kq ≤ k) ∧ Drawn0 w w')
  case atStart => exact ⟨(0), (by first | rfl | (simp; done) | (simp [*]; done)), H', ⟨Nat.le_refl _⟩, by repeat (first | exact Drawn0.refl _ | apply Drawn0.step)⟩
  case round =>
    clear H'
    try clear p2
    obtain ⟨x11_1, rfl, HA, HK1, ⟨m1, rfl⟩⟩ := hrel
    cases gk with
    | zero => exact absurd HA.out (by simp [impl_allWithin.l0])
    | succ k1 =>
      have H := HA.out
      clear HA
      simp only [impl_allWithin.l0] at H
      by_cases c4 : x11_1 < (l0.length : Int)
      · rw [if_pos c4] at H
        have c4b0 : decide (x11_1 < (l0.length : Int)) = true := decide_eq_true c4
        clear c4
        by_cases c5 : 0 ≤ x11_1
        · rw [if_pos c5] at H
          have c5b0 : decide (0 ≤ x11_1) = true := decide_eq_true c5
          clear c5
          by_cases c6 : x11_1 < (l0.length : Int)
          · rw [if_pos c6] at H
            have c6b0 : decide (x11_1 < (l0.length : Int)) = true := decide_eq_true c6
            clear c6
            replace H := Option.bind_eq_some_iff.mp H
            obtain ⟨t361, A70, H⟩ := H
            replace H : (if t361 = true then (impl_allWithin.l0 k1 a1 a2 l0 (l0.length : Int) (wrap64 (x11_1 + 1))) else (some false)) = some r := H
            have A7 := Aside0.mk A70
            clear A70
            by_cases c8 : t361 = true
            · subst c8
              have H1 : (impl_allWithin.l0 k1 a1 a2 l0 (l0.length : Int) (wrap64 (x11_1 + 1))) = some r := by rw [if_pos rfl] at H; exact H
              clear H
              have H := H1
              clear H1
              have H' := Aside0.mk H
              clear H
              have p360 : 0 ≤ (x11_1 : Int) := of_decide_eq_true (by first | (with_reducible assumption) | assumption)
              have q360 : x11_1 < (l0.length : Int) := of_decide_eq_true (by first | (with_reducible assumption) | assumption)
              obtain ⟨ad360, e360, hx360_0⟩ := Kd.at_int HR0.out x11_1 p360 q360
              cases e360
              replace p360 := eq_true p360
              replace q360 := eq_true q360
              go_wp2_with (first | ((with_reducible refine gate_callee (f := 75) rfl ?_); refine goesL_ (some 18) rfl rfl Try.func75 (by kernel_rfl) rfl #[.int .i64 (rd l0 x11_1), .int .i64 a1, .int .i64 a2] rfl (by (try simp only [List.map_toArray, List.map_cons, List.map_nil]); first | done | rfl | (simp only [List.length_drop, List.length_take]; rfl)) ?_; (with_reducible refine (impl_within.calls (rd l0 x11_1) a1 a2 true _ A7.out).mono ?_); rintro e w' ⟨rfl, ⟨nd, rfl⟩⟩; refine ⟨_, rfl, ?_⟩))
              go_roundg k1
              case measure => have := HK1.out; omega
              case rel => exact ⟨(wrap64 (x11_1 + 1)), (by first | rfl | (simp; done) | (simp [*]; done)), H', ⟨by have := HK1.out; omega⟩, by repeat (first | exact Drawn0.refl _ | apply Drawn0.step)⟩
            · replace c8 := Bool.eq_false_iff.mpr c8
              subst c8
              have H1 : (some false) = some r := by rw [if_neg (show ¬ (false = true) by decide)] at H; exact H
              clear H
              have H := H1
              clear H1
              obtain rfl := Option.some.inj H
              have p360 : 0 ≤ (x11_1 : Int) := of_decide_eq_true (by first | (with_reducible assumption) | assumption)
              have q360 : x11_1 < (l0.length : Int) := of_decide_eq_true (by first | (with_reducible assumption) | assumption)
              obtain ⟨ad360, e360, hx360_0⟩ := Kd.at_int HR0.out x11_1 p360 q360
              cases e360
              replace p360 := eq_true p360
              replace q360 := eq_true q360
              go_wp2_with (first | ((with_reducible refine gate_callee (f := 75) rfl ?_); refine goesL_ (some 18) rfl rfl Try.func75 (by kernel_rfl) rfl #[.int .i64 (rd l0 x11_1), .int .i64 a1, .int .i64 a2] rfl (by (try simp only [List.map_toArray, List.map_cons, List.map_nil]); first | done | rfl | (simp only [List.length_drop, List.length_take]; rfl)) ?_; (with_reducible refine (impl_within.calls (rd l0 x11_1) a1 a2 false _ A7.out).mono ?_); rintro e w' ⟨rfl, ⟨nd, rfl⟩⟩; refine ⟨_, rfl, ?_⟩))
              go_ret
              exact ⟨by first | rfl | (simp; done) | (simp [*]; done), by repeat (first | exact Drawn0.refl _ | apply Drawn0.step)⟩
          · rw [if_neg c6] at H
            exact absurd H (by simp)
        · rw [if_neg c5] at H
          exact absurd H (by simp)
      · rw [if_neg c4] at H
        have c4b0 : decide (x11_1 < (l0.length : Int)) = false := decide_eq_false c4
        clear c4
        obtain rfl := Option.some.inj H
        go_wp2
        go_ret
        exact ⟨by first | rfl | (simp; done) | (simp [*]; done), by repeat (first | exact Drawn0.refl _ | apply Drawn0.step)⟩

theorem allWithin_l0 (lo up : Int) (l : List Int) (hl : l.length ≤ maxLen) : ∀ (d i : Nat), i + d = l.length → Ev (fun k => impl_allWithin.l0 k lo up l (l.length : Int) i) (allR (l.drop i) lo up) := by
  unfold maxLen at hl
  intro d
  induction d with
  | zero =>
    intro i hi
    refine Ev.step (fun k => by rw [impl_allWithin.l0]) ?_
    rw [List.drop_eq_nil_of_le (by omega)]
    exact evNeg (by omega) (Ev.now true)
  | succ d ih =>
    intro i hi
    have h1 : i < l.length := by omega
    refine Ev.step (fun k => by rw [impl_allWithin.l0]) ?_
    refine evPos (by omega) (evPos (by omega) (evPos (by omega) ?_))
    rw [drop_get h1, rd_nat h1, within_f]
    simp only [Option.bind_some, allR, List.all_cons]
    cases inR l[i] lo up with
    | false => exact evNeg (by simp) (Ev.now false)
    | true =>
      refine evPos rfl ?_
      rw [w64 (by omega) (by omega)]
      exact ih (i + 1) (by omega)
theorem allWithin_f (l : List Int) (lo hi : Int) (hl : l.length ≤ maxLen) : Ev (fun k => impl_allWithin.f k l lo hi) (allR l lo hi) := by
  have := allWithin_l0 lo hi l hl l.length 0 (by omega)
  simpa [impl_allWithin.f] using this

/-! ### impl_LensOk: function 49 -/
mutual
def impl_LensOk.j0 : Nat → List Int → Bool → Option (Bool)
  | 0, _, _ => none
  | k + 1, x0, x13 => if x13 = true then (some false) else (impl_LensOk.l0 k 0 x0 (x0.length : Int) 0)
def impl_LensOk.l0 : Nat → Int → List Int → Int → Int → Option (Bool)
  | 0, _, _, _, _ => none
  | k + 1, x3, x14, x15, x16 => if x16 < x15 then (if 0 ≤ x16 then (if x16 < (x14.length : Int) then (if (rd x14 x16) > 0 then (if 0 ≤ (wrap64 (16 - (rd x14 x16))) then (impl_LensOk.l0 k (wrap64 (x3 + (shl .i64 1 (wrap64 (16 - (rd x14 x16)))))) x14 x15 (wrap64 (x16 + 1))) else (none)) else (impl_LensOk.l0 k x3 x14 x15 (wrap64 (x16 + 1)))) else (none)) else (none)) else ((impl_within.f x3 1 65536).bind fun t364 => (some t364))
end
def impl_LensOk.f (k : Nat) (l0 : List Int) : Option (Bool) := if (l0.length : Int) > 256 then (impl_LensOk.j0 k l0 true) else ((impl_allWithin.f k l0 0 16).bind fun t362 => (impl_LensOk.j0 k l0 (!t362)))
theorem impl_LensOk.mono_l : ∀ k, (∀ y0 y1, LeO (impl_LensOk.j0 k y0 y1) (impl_LensOk.j0 (k + 1) y0 y1)) ∧ (∀ y0 y1 y2 y3, LeO (impl_LensOk.l0 k y0 y1 y2 y3) (impl_LensOk.l0 (k + 1) y0 y1 y2 y3))
  | 0 => ⟨fun _ _ r h => by simp [impl_LensOk.j0] at h, fun _ _ _ _ r h => by simp [impl_LensOk.l0] at h⟩
  | k + 1 => by
    obtain ⟨ih0, ih1⟩ := impl_LensOk.mono_l k
    refine ⟨?_, ?_⟩
    · intro y0 y1
      unfold impl_LensOk.j0
      repeat' first
      | (with_reducible exact ih0 _ _)
      | (with_reducible exact ih1 _ _ _ _)
      | (with_reducible exact impl_allWithin.mono _ _ _ _)
      | (with_reducible exact LeO.refl _)
      | (with_reducible exact LeO.none _)
      | (with_reducible refine LeO.ite ?_ ?_)
      | (with_reducible refine LeO.bind ?_ (fun _ => ?_))
      | exact ih0 _ _
      | exact ih1 _ _ _ _
      | exact impl_allWithin.mono _ _ _ _
      | exact LeO.none _
      | refine LeO.ite ?_ ?_
      | refine LeO.bind ?_ (fun _ => ?_)
    · intro y0 y1 y2 y3
      unfold impl_LensOk.l0
      repeat' first
      | (with_reducible exact ih0 _ _)
      | (with_reducible exact ih1 _ _ _ _)
      | (with_reducible exact impl_allWithin.mono _ _ _ _)
      | (with_reducible exact LeO.refl _)
      | (with_reducible exact LeO.none _)
      | (with_reducible refine LeO.ite ?_ ?_)
      | (with_reducible refine LeO.bind ?_ (fun _ => ?_))
      | exact ih0 _ _
      | exact ih1 _ _ _ _
      | exact impl_allWithin.mono _ _ _ _
      | exact LeO.none _
      | refine LeO.ite ?_ ?_
      | refine LeO.bind ?_ (fun _ => ?_)
theorem impl_LensOk.mono : ∀ a0 k, LeO (impl_LensOk.f k a0) (impl_LensOk.f (k + 1) a0) := by
  intro a0 k
  obtain ⟨ih0, ih1⟩ := impl_LensOk.mono_l k
  unfold impl_LensOk.f
  repeat' first
      | (with_reducible exact ih0 _ _)
      | (with_reducible exact ih1 _ _ _ _)
      | (with_reducible exact impl_allWithin.mono _ _ _ _)
      | (with_reducible exact LeO.refl _)
      | (with_reducible exact LeO.none _)
      | (with_reducible refine LeO.ite ?_ ?_)
      | (with_reducible refine LeO.bind ?_ (fun _ => ?_))
      | exact ih0 _ _
      | exact ih1 _ _ _ _
      | exact impl_allWithin.mono _ _ _ _
      | exact LeO.none _
      | refine LeO.ite ?_ ?_
      | refine LeO.bind ?_ (fun _ => ?_)
set_option maxHeartbeats 8000000 in
set_option maxRecDepth 100000 in
theorem impl_LensOk.calls (k : Nat) (A0 : Option Addr) (c0 : Nat) (l0 : List Int) (r : Bool) (w : World) (hr0 : Kd.C (Kd.int .i64) w A0 l0.length l0) (hc0 : l0.length ≤ c0) (h : impl_LensOk.f k l0 = some r) :
    Calls Try.prog 49 #[.slice A0 l0.length c0] w fun e w' => e = .returned (.bool r) ∧ Drawn0 w w' := by
  have HR0 := Aside0.mk hr0
  have HC0 := Aside0.mk hc0
  clear hr0 hc0
  have H : (if (l0.length : Int) > 256 then (impl_LensOk.j0 k l0 true) else ((impl_allWithin.f k l0 0 16).bind fun t362 => (impl_LensOk.j0 k l0 (!t362)))) = some r := h
  clear h
  have HC2 := Aside0.mk H
  clear H
  go_enter Try.func49, Try.ntmps49
  go_upto_region 1 with (fail)
  go_cut [13] (fun v13 wc => ∃ (kq : Nat) (x13_1 : Bool), v13 = .bool x13_1 ∧ Aside0 (impl_LensOk.j0 kq l0 x13_1 = some r) ∧ Aside0 (kq ≤ k) ∧ Drawn0 w wc)
  case first =>
    have H := HC2.out
    clear HC2
    by_cases c3 : (l0.length : Int) > 256
    · rw [if_pos c3] at H
      have c3b0 : decide (256 < (l0.length : Int)) = true := decide_eq_true c3
      have c3b1 : decide (256 < l0.length) = true := decide_eq_true (by omega)
      clear c3
      (first | rw [c3b0] | (simp only [i64_w, i32_w]; rw [c3b0]) | skip)
      have H' := Aside0.mk H
      clear H
      go_wp2
      go_meet
      case rel => exact ⟨_, (true), (by first | rfl | (simp; done) | (simp [*]; done)), H', ⟨by first | omega | exact Nat.le_refl _⟩, by repeat (first | exact Drawn0.refl _ | apply Drawn0.step)⟩
    · rw [if_neg c3] at H
      have c3b0 : decide (256 < (l0.length : Int)) = false := decide_eq_false c3
      have c3b1 : decide (256 < l0.length) = false := decide_eq_false (by omega)
      clear c3
      (first | rw [c3b0] | (simp only [i64_w, i32_w]; rw [c3b0]) | skip)
      replace H := Option.bind_eq_some_iff.mp H
      obtain ⟨t362, A40, H⟩ := H
      replace H : (impl_LensOk.j0 k l0 (!t362)) = some r := H
      have A4 := Aside0.mk A40
      clear A40
      have H' := Aside0.mk H
      clear H
      go_wp2_with (first | (go_at_call 71; (with_reducible refine (impl_allWithin.calls k _ _ l0 0 16 t362 _ ?side1 ?side2 A4.out).mono ?_); (case side1 => repeat (first | exact HR0.out | (with_reducible refine Kd.C_alloc ?_ _) | (with_reducible refine Kd.C_drewN ?_ _) | (with_reducible refine Kd.C_drew ?_))); (case side2 => exact HC0.out); rintro e w' ⟨rfl, ⟨nd, rfl⟩⟩))
      go_meet
      case rel => exact ⟨_, (!t362), (by first | rfl | (simp; done) | (simp [*]; done)), H', ⟨by first | omega | exact Nat.le_refl _⟩, by repeat (first | exact Drawn0.refl _ | apply Drawn0.step)⟩
  case rest =>
    clear HC2
    try clear p2
    try clear c3
    try clear c3b0
    try clear c3b1
    try clear c4
    obtain ⟨kq, x13_1, rfl, HA, HJ1, ⟨mc1, rfl⟩⟩ := hcut
    cases kq with
    | zero => exact absurd HA.out (by simp [impl_LensOk.j0])
    | succ kj1 =>
      have H := HA.out
      clear HA
      simp only [impl_LensOk.j0] at H
      by_cases c5 : x13_1 = true
      · subst c5
        have H1 : (some false) = some r := by rw [if_pos rfl] at H; exact H
        clear H
        have H := H1
        clear H1
        obtain rfl := Option.some.inj H
        go_wp2
        go_ret
        exact ⟨by first | rfl | (simp; done) | (simp [*]; done), by repeat (first | exact Drawn0.refl _ | apply Drawn0.step)⟩
      · replace c5 := Bool.eq_false_iff.mpr c5
        subst c5
        have H1 : (impl_LensOk.l0 kj1 0 l0 (l0.length : Int) 0) = some r := by rw [if_neg (show ¬ (false = true) by decide)] at H; exact H
        clear H
        have H := H1
        clear H1
        have H' := Aside0.mk H
        clear H
        go_wp2
        go_loopg [3, 16] kj1 (fun kq v3 v16 w' => ∃ (x3_2 : Int) (x16_2 : Int), v3 = .int .i64 x3_2 ∧ v16 = .int .i64 x16_2 ∧ Aside0 (impl_LensOk.l0 kq x3_2 l0 (l0.length : Int) x16_2 = some r) ∧ Aside0 (kq ≤ kj1) ∧ Drawn0 w w')
        case atStart => exact ⟨(0), (0), (by first | rfl | (simp; done) | (simp [*]; done)), (by first | rfl | (simp; done) | (simp [*]; done)), H', ⟨Nat.le_refl _⟩, by repeat (first | exact Drawn0.refl _ | apply Drawn0.step)⟩
        case round =>
          clear H'
          try clear c1
          try clear p2
          try clear c3
          try clear c3b0
          try clear c3b1
          try clear c4
          try clear c5
          try clear p2
          obtain ⟨x3_2, x16_2, rfl, rfl, HA, HK2, ⟨m2, rfl⟩⟩ := hrel
          cases gk with
          | zero => exact absurd HA.out (by simp [impl_LensOk.l0])
          | succ k2 =>
            have H := HA.out
            clear HA
            simp only [impl_LensOk.l0] at H
            by_cases c6 : x16_2 < (l0.length : Int)
            · rw [if_pos c6] at H
              have c6b0 : decide (x16_2 < (l0.length : Int)) = true := decide_eq_true c6
              clear c6
              by_cases c7 : 0 ≤ x16_2
              · rw [if_pos c7] at H
                have c7b0 : decide (0 ≤ x16_2) = true := decide_eq_true c7
                clear c7
                by_cases c8 : x16_2 < (l0.length : Int)
                · rw [if_pos c8] at H
                  have c8b0 : decide (x16_2 < (l0.length : Int)) = true := decide_eq_true c8
                  clear c8
                  by_cases c9 : (rd l0 x16_2) > 0
                  · rw [if_pos c9] at H
                    have c9b0 : decide (0 < (rd l0 x16_2)) = true := decide_eq_true c9
                    clear c9
                    obtain ⟨ji10, hji10⟩ : ∃ j_ : Int, (wrap64 (16 - (rd l0 x16_2))) = j_ := ⟨_, rfl⟩
                    replace H : (if 0 ≤ (ji10) then (impl_LensOk.l0 k2 (wrap64 (x3_2 + (shl .i64 1 (ji10)))) l0 (l0.length : Int) (wrap64 (x16_2 + 1))) else (none)) = some r := by first | (rw [hji10] at H; exact H) | (simp only [hji10] at H ⊢; exact H)
                    have hji10w : (IntKind.i64.wrap (16 - (rd l0 x16_2))) = ji10 := (i64_w _).trans hji10
                    by_cases c11 : 0 ≤ (ji10)
                    · rw [if_pos c11] at H
                      have c11b0 := eq_true c11
                      have c11b1 : decide (0 ≤ (ji10)) = true := decide_eq_true c11
                      clear c11
                      obtain ⟨ji12, hji12⟩ : ∃ j_ : Int, (shl .i64 1 (ji10)) = j_ := ⟨_, rfl⟩
                      replace H : (impl_LensOk.l0 k2 (wrap64 (x3_2 + (ji12))) l0 (l0.length : Int) (wrap64 (x16_2 + 1))) = some r := by first | (rw [hji12] at H; exact H) | (simp only [hji12] at H ⊢; exact H)
                      have hji12_ : (IntKind.i64.wrap (1 * 2 ^ min (ji10).toNat 64)) = ji12 := hji12
                      have hji12z : (ji10) ≤ 64 → (IntKind.i64.wrap (1 * 2 ^ (ji10).toNat)) = ji12 := shl_small hji12
                      have hji12u : (IntKind.i64.wrap (2 ^ min (ji10).toNat 64)) = ji12 := by have h_ := hji12_; rw [Int.one_mul] at h_; exact h_
                      have hji12v : (ji10) ≤ 64 → (IntKind.i64.wrap (2 ^ (ji10).toNat)) = ji12 := fun hle_ => by have h_ := hji12z hle_; rw [Int.one_mul] at h_; exact h_
                      have hji12y : (wrap64 (1 * 2 ^ min (ji10).toNat 64)) = ji12 := (i64_w _).symm.trans hji12_
                      have hji12x : (ji10) ≤ 64 → (wrap64 (1 * 2 ^ (ji10).toNat)) = ji12 := fun h_ => (i64_w _).symm.trans (hji12z h_)
                      have H' := Aside0.mk H
                      clear H
                      have p363 : 0 ≤ (x16_2 : Int) := of_decide_eq_true (by first | (with_reducible assumption) | assumption)
                      have q363 : x16_2 < (l0.length : Int) := of_decide_eq_true (by first | (with_reducible assumption) | assumption)
                      obtain ⟨ad363, e363, hx363_0⟩ := Kd.at_int HR0.out x16_2 p363 q363
                      cases e363
                      replace p363 := eq_true p363
                      replace q363 := eq_true q363
                      go_wp2
                      go_roundg k2
                      case measure => have := HJ1.out; have := HK2.out; omega
                      case rel => exact ⟨(wrap64 (x3_2 + (ji12))), (wrap64 (x16_2 + 1)), (by first | rfl | (simp; done) | (simp only [← hji12] <;> (first | rfl | simp)) | (simp [*]; done)), (by first | rfl | (simp; done) | (simp [*]; done)), H', ⟨by have := HJ1.out; have := HK2.out; omega⟩, by repeat (first | exact Drawn0.refl _ | apply Drawn0.step)⟩
                    · rw [if_neg c11] at H
                      exact absurd H (by simp)
                  · rw [if_neg c9] at H
                    have c9b0 : decide (0 < (rd l0 x16_2)) = false := decide_eq_false c9
                    clear c9
                    have H' := Aside0.mk H
                    clear H
                    have p363 : 0 ≤ (x16_2 : Int) := of_decide_eq_true (by first | (with_reducible assumption) | assumption)
                    have q363 : x16_2 < (l0.length : Int) := of_decide_eq_true (by first | (with_reducible assumption) | assumption)
                    obtain ⟨ad363, e363, hx363_0⟩ := Kd.at_int HR0.out x16_2 p363 q363
                    cases e363
                    replace p363 := eq_true p363
                    replace q363 := eq_true q363
                    go_wp2
                    go_roundg k2
                    case measure => have := HJ1.out; have := HK2.out; omega
                    case rel => exact ⟨(x3_2), (wrap64 (x16_2 + 1)), (by first | rfl | (simp; done) | (simp [*]; done)), (by first | rfl | (simp; done) | (simp [*]; done)), H', ⟨by have := HJ1.out; have := HK2.out; omega⟩, by repeat (first | exact Drawn0.refl _ | apply Drawn0.step)⟩
                · rw [if_neg c8] at H
                  exact absurd H (by simp)
              · rw [if_neg c7] at H
                exact absurd H (by simp)
            · rw [if_neg c6] at H
              have c6b0 : decide (x16_2 < (l0.length : Int)) = false := decide_eq_false c6
              clear c6
              replace H := Option.bind_eq_some_iff.mp H
              obtain ⟨t364, A130, H⟩ := H
              replace H : (some t364) = some r := H
              have A13 := Aside0.mk A130
              clear A130
              obtain rfl := Option.some.inj H
              go_wp2_with (first | ((with_reducible refine gate_callee (f := 75) rfl ?_); refine goesL_ (some 29) rfl rfl Try.func75 (by kernel_rfl) rfl #[.int .i64 x3_2, .int .i64 1, .int .i64 65536] rfl (by (try simp only [List.map_toArray, List.map_cons, List.map_nil]); first | done | rfl | (simp only [List.length_drop, List.length_take]; rfl)) ?_; (with_reducible refine (impl_within.calls x3_2 1 65536 t364 _ A13.out).mono ?_); rintro e w' ⟨rfl, ⟨nd, rfl⟩⟩; refine ⟨_, rfl, ?_⟩))
              go_ret
              exact ⟨by first | rfl | (simp; done) | (simp [*]; done), by repeat (first | exact Drawn0.refl _ | apply Drawn0.step)⟩

theorem iLens_l0 (l : List Int) (hl : l.length ≤ 256) (ha : allR l 0 16 = true) : ∀ (d i : Nat) (sum : Int), i + d = l.length → 0 ≤ sum → sum ≤ 65536 * i → Ev (fun k => impl_LensOk.l0 k sum l (l.length : Int) i) (inR (sum + krL (l.drop i)) 1 65536) := by
  intro d
  induction d with
  | zero =>
    intro i sum hd h0 h1
    refine Ev.step (fun k => by rw [impl_LensOk.l0]) (evNeg (by omega) ?_)
    rw [List.drop_eq_nil_of_le (by omega)]
    simp only [krL, List.map_nil, List.sum_nil, Int.add_zero]
    exact evBind (evConst (within_f _ _ _)) (Ev.now _)
  | succ d ih =>
    intro i sum hd h0 h1
    have hlt : i < l.length := by omega
    have hb := inR_iff.1 (List.all_eq_true.1 ha l[i] (List.getElem_mem hlt))
    have kb := krS_range hb.1 hb.2
    have hs := ih (i + 1) (sum + krS l[i]) (by omega) (by omega) (by omega)
    refine Ev.step (fun k => by rw [impl_LensOk.l0]) (evPos (by omega) (evPos (by omega) (evPos (by omega) ?_)))
    rw [rd_nat hlt, drop_get hlt]
    simp only [krL, List.map_cons, List.sum_cons]
    rw [← Int.add_assoc]
    refine evIf (fun hp => ?_) (fun hp => ?_)
    · rw [w64 (x := 16 - l[i]) (by omega) (by omega)]
      refine evPos (by omega) ?_
      have ek : shl .i64 1 (16 - l[i]) = krS l[i] := by unfold krS; rw [if_pos hp]
      rw [ek, w64 (x := sum + krS l[i]) (by omega) (by omega), show (i : Int) + 1 = ((i + 1 : Nat) : Int) from by omega, w64n (by omega)]
      exact hs
    · have ek : krS l[i] = 0 := by unfold krS; rw [if_neg hp]
      rw [ek, Int.add_zero] at hs
      rw [ek, Int.add_zero, show (i : Int) + 1 = ((i + 1 : Nat) : Int) from by omega, w64n (by omega)]
      exact hs
theorem iLens_f (l : List Int) (hl : l.length ≤ maxLen) : Ev (fun k => impl_LensOk.f k l) (lensB l) := by
  unfold impl_LensOk.f lensB
  refine evIf (fun h => ?_) (fun h => ?_)
  · rw [decide_eq_false (by omega)]
    refine Ev.step (fun k => by rw [impl_LensOk.j0]) (evPos rfl ?_)
    exact Ev.now _
  · rw [decide_eq_true (by omega), Bool.true_and]
    refine evBind (allWithin_f l 0 16 hl) ?_
    refine Ev.step (fun k => by rw [impl_LensOk.j0]) ?_
    by_cases ha : allR l 0 16 = true
    · rw [ha]
      refine evNeg (by simp) ?_
      have := iLens_l0 l (by omega) ha l.length 0 0 (by omega) (by omega) (by omega)
      rw [List.drop_zero, Int.zero_add] at this
      exact this
    · rw [Bool.eq_false_iff.mpr ha]
      exact evPos rfl (Ev.now _)

end Go.Proofs.Ytdeheflbigggbaa.CX
