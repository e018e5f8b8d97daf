/- Functions that a law of this seat reaches: written by a program of this session (wip/xprint.py), and by hand. -/
import Derived.Test.YtdeheflbigggbaaCMx0
import Derived.Test.YtdeheflbigggbaaCMx2
import Derived.Test.YtdeheflbigggbaaCMx3
import Derived.Test.YtdeheflbigggbaaCMx4
namespace Go.Proofs.Ytdeheflbigggbaa.CM
open Go.RowKit Go.Proofs.Ytdeheflbigggbaa.B Go.Proofs.YtdeheflbigggbaaW.PrintWords Go.Proofs.YtdeheflbigggbaaW.PrintLast Go.Proofs.YtdeheflbigggbaaW.PrintMore
attribute [local go_sem] max2_int min2_int max_two min_two max_three min_three max_four min_four   -- for this text's walks alone
set_option linter.unusedVariables false
set_option linter.unusedSimpArgs false

theorem allWithin_l0 (lo up : Int) (l : List Int) (hl : l.length ≤ maxLen) : ∀ (d i : Nat), i + d = l.length → Ev (fun k => impl_allWithin.l0 k lo up l (l.length : Int) i) (allR (l.drop i) lo up) := by
  unfold maxLen at hl
  intro d
  induction d with
  | zero =>
    intro i hi
    refine Ev.step (fun k => by rw [impl_allWithin.l0]) ?_
    rw [List.drop_eq_nil_of_le (by omega)]
    exact evNeg (by omega) (Ev.now true)
  | succ d ih =>
    intro i hi
    have h1 : i < l.length := by omega
    refine Ev.step (fun k => by rw [impl_allWithin.l0]) ?_
    refine evPos (by omega) (evPos (by omega) (evPos (by omega) ?_))
    rw [drop_get h1, rd_nat h1, within_f]
    simp only [Option.bind_some, allR, List.all_cons]
    cases inR l[i] lo up with
    | false => exact evNeg (by simp) (Ev.now false)
    | true =>
      refine evPos rfl ?_
      rw [w64 (by omega) (by omega)]
      exact ih (i + 1) (by omega)
theorem allWithin_f (l : List Int) (lo hi : Int) (hl : l.length ≤ maxLen) : Ev (fun k => impl_allWithin.f k l lo hi) (allR l lo hi) := by
  have := allWithin_l0 lo hi l hl l.length 0 (by omega)
  simpa [impl_allWithin.f] using this

/-! ### impl_ListBins: function 35 -/
mutual
def impl_ListBins.j0 : Nat → List Int → Int → Bool → Option ((List (S31)))
  | 0, _, _, _ => none
  | k + 1, x0, x1, x20 => if x20 = true then (some ([] : List (S31))) else (impl_ListBins.l0 k x1 (([] : List (S31))) x0 (x0.length : Int) 0)
def impl_ListBins.l0 : Nat → Int → List (S31) → List Int → Int → Int → Option ((List (S31)))
  | 0, _, _, _, _, _ => none
  | k + 1, x1, x5, x22, x23, x24 => if x24 < x23 then (if 0 ≤ x24 then (if x24 < (x22.length : Int) then ((impl_binsOf.f k (rd x22 x24) x1).bind fun t173 => (if x5.length + t173.length < 8796093022208 then (impl_ListBins.l0 k x1 (x5 ++ t173) x22 x23 (wrap64 (x24 + 1))) else (none))) else (none)) else (none)) else (some x5)
end
def impl_ListBins.f (k : Nat) (l0 : List Int) (a1 : Int) : Option ((List (S31))) := if (l0.length : Int) > 4096 then (impl_ListBins.j0 k l0 a1 true) else ((impl_allWithin.f k l0 (-32767) 32767).bind fun t167 => (if t167 = true then ((impl_isBase.f a1).bind fun t168 => (impl_ListBins.j0 k l0 a1 (!t168))) else (impl_ListBins.j0 k l0 a1 true)))
theorem impl_ListBins.mono_l : ∀ k, (∀ y0 y1 y2, LeO (impl_ListBins.j0 k y0 y1 y2) (impl_ListBins.j0 (k + 1) y0 y1 y2)) ∧ (∀ y0 y1 y2 y3 y4, LeO (impl_ListBins.l0 k y0 y1 y2 y3 y4) (impl_ListBins.l0 (k + 1) y0 y1 y2 y3 y4))
  | 0 => ⟨fun _ _ _ r h => by simp [impl_ListBins.j0] at h, fun _ _ _ _ _ r h => by simp [impl_ListBins.l0] at h⟩
  | k + 1 => by
    obtain ⟨ih0, ih1⟩ := impl_ListBins.mono_l k
    refine ⟨?_, ?_⟩
    · intro y0 y1 y2
      unfold impl_ListBins.j0
      repeat' first
      | (with_reducible exact ih0 _ _ _)
      | (with_reducible exact ih1 _ _ _ _ _)
      | (with_reducible exact impl_allWithin.mono _ _ _ _)
      | (with_reducible exact impl_binsOf.mono _ _ _)
      | (with_reducible exact LeO.refl _)
      | (with_reducible exact LeO.none _)
      | (with_reducible refine LeO.ite ?_ ?_)
      | (with_reducible refine LeO.bind ?_ (fun _ => ?_))
      | exact ih0 _ _ _
      | exact ih1 _ _ _ _ _
      | exact impl_allWithin.mono _ _ _ _
      | exact impl_binsOf.mono _ _ _
      | exact LeO.none _
      | refine LeO.ite ?_ ?_
      | refine LeO.bind ?_ (fun _ => ?_)
    · intro y0 y1 y2 y3 y4
      unfold impl_ListBins.l0
      repeat' first
      | (with_reducible exact ih0 _ _ _)
      | (with_reducible exact ih1 _ _ _ _ _)
      | (with_reducible exact impl_allWithin.mono _ _ _ _)
      | (with_reducible exact impl_binsOf.mono _ _ _)
      | (with_reducible exact LeO.refl _)
      | (with_reducible exact LeO.none _)
      | (with_reducible refine LeO.ite ?_ ?_)
      | (with_reducible refine LeO.bind ?_ (fun _ => ?_))
      | exact ih0 _ _ _
      | exact ih1 _ _ _ _ _
      | exact impl_allWithin.mono _ _ _ _
      | exact impl_binsOf.mono _ _ _
      | exact LeO.none _
      | refine LeO.ite ?_ ?_
      | refine LeO.bind ?_ (fun _ => ?_)
theorem impl_ListBins.mono : ∀ a0 a1 k, LeO (impl_ListBins.f k a0 a1) (impl_ListBins.f (k + 1) a0 a1) := by
  intro a0 a1 k
  obtain ⟨ih0, ih1⟩ := impl_ListBins.mono_l k
  unfold impl_ListBins.f
  repeat' first
      | (with_reducible exact ih0 _ _ _)
      | (with_reducible exact ih1 _ _ _ _ _)
      | (with_reducible exact impl_allWithin.mono _ _ _ _)
      | (with_reducible exact impl_binsOf.mono _ _ _)
      | (with_reducible exact LeO.refl _)
      | (with_reducible exact LeO.none _)
      | (with_reducible refine LeO.ite ?_ ?_)
      | (with_reducible refine LeO.bind ?_ (fun _ => ?_))
      | exact ih0 _ _ _
      | exact ih1 _ _ _ _ _
      | exact impl_allWithin.mono _ _ _ _
      | exact impl_binsOf.mono _ _ _
      | exact LeO.none _
      | refine LeO.ite ?_ ?_
      | refine LeO.bind ?_ (fun _ => ?_)
set_option maxHeartbeats 8000000 in
set_option maxRecDepth 100000 in
theorem impl_ListBins.calls (k : Nat) (A0 : Option Addr) (c0 : Nat) (l0 : List Int) (a1 : Int) (r : List (S31)) (w : World) (hr0 : Kd.C (Kd.int .i64) w A0 l0.length l0) (hc0 : l0.length ≤ c0) (h : impl_ListBins.f k l0 a1 = some r) :
    Calls Try.prog 35 #[.slice A0 l0.length c0, .int .i64 a1] w fun e w' => ∃ v0_ : Value, e = .returned (v0_) ∧ Kd.R k31 31 w' w.heap.size (fun _ => True) v0_ r ∧ Below w.heap.size w w' := by
  have HR0 := Aside0.mk hr0
  have HC0 := Aside0.mk hc0
  clear hr0 hc0
  have HB := Aside0.mk (Below.refl w.heap.size w)
  have H : (if (l0.length : Int) > 4096 then (impl_ListBins.j0 k l0 a1 true) else ((impl_allWithin.f k l0 (-32767) 32767).bind fun t167 => (if t167 = true then ((impl_isBase.f a1).bind fun t168 => (impl_ListBins.j0 k l0 a1 (!t168))) else (impl_ListBins.j0 k l0 a1 true)))) = some r := h
  clear h
  have HC3 := Aside0.mk H
  clear H
  go_enter Try.func35, Try.ntmps35
  go_upto_region 1 with (fail)
  go_cut [20] (fun v20 wc => ∃ (kq : Nat) (x20_2 : Bool), v20 = .bool x20_2 ∧ Aside0 (impl_ListBins.j0 kq l0 a1 x20_2 = some r) ∧ Aside0 (kq ≤ k) ∧ Aside0 (Below w.heap.size w wc))
  case first =>
    have H := HC3.out
    clear HC3
    by_cases c4 : (l0.length : Int) > 4096
    · rw [if_pos c4] at H
      have c4b0 : decide (4096 < (l0.length : Int)) = true := decide_eq_true c4
      have c4b1 : decide (4096 < l0.length) = true := decide_eq_true (by omega)
      clear c4
      (first | rw [c4b0] | (simp only [i64_w, i32_w]; rw [c4b0]) | skip)
      have H' := Aside0.mk H
      clear H
      go_wp2
      go_meet
      case rel => exact ⟨_, (true), (by first | rfl | (simp; done) | (simp [*]; done)), H', ⟨by first | omega | exact Nat.le_refl _⟩, ⟨by repeat (first | (with_reducible first | exact HB.out | apply below_alloc | apply pw_below_drewN | apply below_drew1) | exact HB.out)⟩⟩
    · rw [if_neg c4] at H
      have c4b0 : decide (4096 < (l0.length : Int)) = false := decide_eq_false c4
      have c4b1 : decide (4096 < l0.length) = false := decide_eq_false (by omega)
      clear c4
      (first | rw [c4b0] | (simp only [i64_w, i32_w]; rw [c4b0]) | skip)
      replace H := Option.bind_eq_some_iff.mp H
      obtain ⟨t167, A50, H⟩ := H
      replace H : (if t167 = true then ((impl_isBase.f a1).bind fun t168 => (impl_ListBins.j0 k l0 a1 (!t168))) else (impl_ListBins.j0 k l0 a1 true)) = some r := H
      have A5 := Aside0.mk A50
      clear A50
      by_cases c6 : t167 = true
      · subst c6
        have H1 : ((impl_isBase.f a1).bind fun t168 => (impl_ListBins.j0 k l0 a1 (!t168))) = some r := by rw [if_pos rfl] at H; exact H
        clear H
        have H := H1
        clear H1
        replace H := Option.bind_eq_some_iff.mp H
        obtain ⟨t168, A70, H⟩ := H
        replace H : (impl_ListBins.j0 k l0 a1 (!t168)) = some r := H
        have A7 := Aside0.mk A70
        clear A70
        have H' := Aside0.mk H
        clear H
        go_wp2_with (first | (go_at_call 71; (with_reducible refine (impl_allWithin.calls k _ _ l0 (-32767) 32767 true _ ?side1 ?side2 A5.out).mono ?_); (case side1 => repeat (first | exact (Kd.C_below HR0.out HB.out) | (with_reducible refine Kd.C_alloc ?_ _) | (with_reducible refine Kd.C_drewN ?_ _) | (with_reducible refine Kd.C_drew ?_))); (case side2 => exact HC0.out); rintro e w' ⟨rfl, ⟨nd, rfl⟩⟩) | (go_at_call 61; (with_reducible refine (impl_isBase.calls a1 t168 _ A7.out).mono ?_); rintro e w' ⟨rfl, ⟨nd, rfl⟩⟩))
        go_meet
        case rel => exact ⟨_, (!t168), (by first | rfl | (simp; done) | (simp [*]; done)), H', ⟨by first | omega | exact Nat.le_refl _⟩, ⟨by repeat (first | (with_reducible first | exact HB.out | apply below_alloc | apply pw_below_drewN | apply below_drew1) | exact HB.out)⟩⟩
      · replace c6 := Bool.eq_false_iff.mpr c6
        subst c6
        have H1 : (impl_ListBins.j0 k l0 a1 true) = some r := by rw [if_neg (show ¬ (false = true) by decide)] at H; exact H
        clear H
        have H := H1
        clear H1
        have H' := Aside0.mk H
        clear H
        go_wp2_with (first | (go_at_call 71; (with_reducible refine (impl_allWithin.calls k _ _ l0 (-32767) 32767 false _ ?side1 ?side2 A5.out).mono ?_); (case side1 => repeat (first | exact (Kd.C_below HR0.out HB.out) | (with_reducible refine Kd.C_alloc ?_ _) | (with_reducible refine Kd.C_drewN ?_ _) | (with_reducible refine Kd.C_drew ?_))); (case side2 => exact HC0.out); rintro e w' ⟨rfl, ⟨nd, rfl⟩⟩))
        go_meet
        case rel => exact ⟨_, (true), (by first | rfl | (simp; done) | (simp [*]; done)), H', ⟨by first | omega | exact Nat.le_refl _⟩, ⟨by repeat (first | (with_reducible first | exact HB.out | apply below_alloc | apply pw_below_drewN | apply below_drew1) | exact HB.out)⟩⟩
  case rest =>
    clear HC3
    try clear p2
    try clear c3
    try clear c4
    try clear c4b0
    try clear c4b1
    try clear c6
    obtain ⟨kq, x20_2, rfl, HA, HJ2, HB⟩ := hcut
    cases kq with
    | zero => exact absurd HA.out (by simp [impl_ListBins.j0])
    | succ kj2 =>
      have H := HA.out
      clear HA
      simp only [impl_ListBins.j0] at H
      by_cases c8 : x20_2 = true
      · subst c8
        have H1 : (some ([] : List (S31))) = some r := by rw [if_pos rfl] at H; exact H
        clear H
        have H := H1
        clear H1
        obtain rfl := Option.some.inj H
        go_wp2
        go_ret
        exact ⟨_, by first | rfl | (simp [errW_none, errW_some] <;> rfl) | (simp [*, errW_none, errW_some] <;> rfl), by first | exact Kd.R_nil _ _ _ _ _ | exact Kd.N_nil _ _ _ _ _ | exact Kd.V_nil _ _ _ _ _ | exact Kd.Q_nil _ _ _ _ _ | exact Kd.S_nil _ _ _ _ _, by repeat (first | (with_reducible first | exact HB.out | apply below_alloc | apply pw_below_drewN | apply below_drew1) | exact HB.out)⟩
      · replace c8 := Bool.eq_false_iff.mpr c8
        subst c8
        have H1 : (impl_ListBins.l0 kj2 a1 (([] : List (S31))) l0 (l0.length : Int) 0) = some r := by rw [if_neg (show ¬ (false = true) by decide)] at H; exact H
        clear H
        have H := H1
        clear H1
        obtain ⟨y169, hy169⟩ : ∃ y_ : List (S31), y_ = (([] : List (S31))) := ⟨_, rfl⟩
        replace H : (impl_ListBins.l0 kj2 a1 y169 l0 (l0.length : Int) 0) = some r := by first | (rw [hy169]; with_reducible exact H) | (have H2_ := (Option.bind_some _ _).symm.trans H; rw [hy169]; with_reducible exact H2_) | (have H2_ := (Option.bind_some _ _).symm.trans H; with_reducible exact H2_) | with_reducible exact H | (rw [hy169]; exact H) | exact H
        have Ny169 := Aside0.mk hy169
        clear hy169
        have H' := Aside0.mk H
        clear H
        go_wp2_with (first | ((with_reducible refine gate_dst (N := 21) rfl ?_); refine Kd.R_lit k31 _ 31 ?hg (N := 21) ?hd (xs := ([] : List (S31))) (inner := []) (ok := fun _ => True) (okp := fun _ => True) ?hr ?hp (fun _ hk => hk) trivial (Below.refl _ _) (Nat.le_refl _) (by simp) ?_; (case hd => rfl); (case hg => rfl); (case hr => first | (go_simp; done) | (go_simp; rfl)); (case hp => exact (Reps.none _ _)); intro v170 w9 ho10 hb hg_ hnew_; clear hg_ hnew_; (first | rw [← Ny169.out] at ho10 | (simp only [Int.reduceToNat] at ho10; rw [← Ny169.out] at ho10)); have n0_ := Aside0.mk (Kd.R_lower ho10 (below_size (by repeat (first | (with_reducible first | exact HB.out | apply below_alloc | apply pw_below_drewN | apply below_drew1) | exact HB.out)))); have n1_ := Aside0.mk (below_step (by repeat (first | (with_reducible first | exact HB.out | apply below_alloc | apply pw_below_drewN | apply below_drew1) | exact HB.out)) hb); clear HB; have HO171 := n0_; have HB := n1_; clear n0_ n1_; clear hb ho10))
        go_loopg [5, 24] kj2 (fun kq v5 v24 w' => ∃ (x5_2 : List (S31)) (x24_2 : Int), v24 = .int .i64 x24_2 ∧ Aside0 (impl_ListBins.l0 kq a1 x5_2 l0 (l0.length : Int) x24_2 = some r) ∧ Aside0 (kq ≤ kj2) ∧ Aside0 (Kd.R k31 31 w' w.heap.size (fun _ => True) v5 x5_2) ∧ Aside0 (Below w.heap.size w w'))
        case atStart => exact ⟨(y169), (0), (by first | rfl | (simp; done) | (simp [*]; done)), H', ⟨Nat.le_refl _⟩, ⟨by (with_reducible repeat (first | apply Kd.R_alloc | apply Kd.R_drewN | apply Kd.R_drew)); exact HO171.out⟩, ⟨by repeat (first | (with_reducible first | exact HB.out | apply below_alloc | apply pw_below_drewN | apply below_drew1) | exact HB.out)⟩⟩
        case round =>
          clear H'
          try clear p2
          try clear c3
          try clear c4
          try clear c4b0
          try clear c4b1
          try clear c6
          try clear c8
          try clear p2
          obtain ⟨x5_2, x24_2, rfl, HA, HK2, HO_5, HB⟩ := hrel
          cases gk with
          | zero => exact absurd HA.out (by simp [impl_ListBins.l0])
          | succ k2 =>
            have H := HA.out
            clear HA
            simp only [impl_ListBins.l0] at H
            by_cases c11 : x24_2 < (l0.length : Int)
            · rw [if_pos c11] at H
              have c11b0 : decide (x24_2 < (l0.length : Int)) = true := decide_eq_true c11
              clear c11
              by_cases c12 : 0 ≤ x24_2
              · rw [if_pos c12] at H
                have c12b0 : decide (0 ≤ x24_2) = true := decide_eq_true c12
                clear c12
                by_cases c13 : x24_2 < (l0.length : Int)
                · rw [if_pos c13] at H
                  have c13b0 : decide (x24_2 < (l0.length : Int)) = true := decide_eq_true c13
                  clear c13
                  replace H := Option.bind_eq_some_iff.mp H
                  obtain ⟨t173, A140, H⟩ := H
                  replace H : (if x5_2.length + t173.length < 8796093022208 then (impl_ListBins.l0 k2 a1 (x5_2 ++ t173) l0 (l0.length : Int) (wrap64 (x24_2 + 1))) else (none)) = some r := H
                  have A14 := Aside0.mk A140
                  clear A140
                  by_cases c15 : x5_2.length + t173.length < 8796093022208
                  · rw [if_pos c15] at H
                    have LMc15 := Aside0.mk c15
                    clear c15
                    obtain ⟨y176, hy176⟩ : ∃ y_ : List (S31), y_ = (x5_2 ++ t173) := ⟨_, rfl⟩
                    replace H : (impl_ListBins.l0 k2 a1 y176 l0 (l0.length : Int) (wrap64 (x24_2 + 1))) = some r := by first | (rw [hy176]; with_reducible exact H) | (have H2_ := (Option.bind_some _ _).symm.trans H; rw [hy176]; with_reducible exact H2_) | (have H2_ := (Option.bind_some _ _).symm.trans H; with_reducible exact H2_) | with_reducible exact H | (rw [hy176]; exact H) | exact H
                    have Ny176 := Aside0.mk hy176
                    clear hy176
                    have H' := Aside0.mk H
                    clear H
                    have p172 : 0 ≤ (x24_2 : Int) := of_decide_eq_true (by first | (with_reducible assumption) | assumption)
                    have q172 : x24_2 < (l0.length : Int) := of_decide_eq_true (by first | (with_reducible assumption) | assumption)
                    obtain ⟨ad172, e172, hx172_0⟩ := Kd.at_int HR0.out x24_2 p172 q172
                    cases e172
                    replace hx172_0 := (HB.out.cell (World.block_lt_of_cell? w _ hx172_0)).trans hx172_0
                    replace p172 := eq_true p172
                    replace q172 := eq_true q172
                    go_wp2_with (first | ((with_reducible refine gate_callee (f := 62) rfl ?_); refine goesL_ (some 31) rfl rfl Try.func62 (by kernel_rfl) rfl #[.int .i64 (rd l0 x24_2), .int .i64 a1] rfl (by (try simp only [List.map_toArray, List.map_cons, List.map_nil]); first | done | rfl | (simp only [List.length_drop, List.length_take]; rfl)) ?_; (with_reducible refine (impl_binsOf.calls k2 (rd l0 x24_2) a1 t173 _ A14.out).mono ?_); rintro e w16 ⟨v174, rfl, ho0, hb⟩; refine ⟨_, rfl, ?_⟩; have n0_ := Aside0.mk (Kd.R_elder' (by (with_reducible repeat (first | apply Kd.R_alloc | apply Kd.R_drewN | apply Kd.R_drew)); exact HO_5.out) (Kd.R_base ho0) hb); have n1_ := Aside0.mk (Kd.R_lower (Kd.R_new' ho0 (Kd.R_lt (by (with_reducible repeat (first | apply Kd.R_alloc | apply Kd.R_drewN | apply Kd.R_drew)); exact HO_5.out))) (below_size (by repeat (first | (with_reducible first | exact HB.out | apply below_alloc | apply pw_below_drewN | apply below_drew1) | exact HB.out)))); have n2_ := Aside0.mk (below_step (by repeat (first | (with_reducible first | exact HB.out | apply below_alloc | apply pw_below_drewN | apply below_drew1) | exact HB.out)) hb); clear HO_5; clear HB; have HO_5 := n0_; have HO175 := n1_; have HB := n2_; clear n0_ n1_ n2_; (try clear hb); (try clear hb2); (try clear hk); (try clear hi); (try clear ho0); obtain ⟨Ao18, co18, eo18⟩ := Kd.R_slice HO175.out; subst eo18) | ((with_reducible refine gate_builtin (b := .append) (xs := #[.tmp 28, .tmp 31]) rfl ?_); at_builtin; refine Kd.R_append_rows k31 (w0 := w) w.heap.size rfl (.tmp 28) (.tmp 31) 22 31 (.agg #[(.int .i64 0), (.int .i64 0)]) 16 rfl Try.underlying22 info31 rfl (by decide) (by omega) u5 x5_2 t173 _ _ _ (fun k_ => some k_ ≠ (.slice Ao18 t173.length co18 : Value).ownBlock) (fun _ => False) rfl rfl ?aO ?aR (fun _ _ h => h) (fun _ h => h.elim) ?aF ?aB ?aS ?aL ?_; (case aR => repeat (first | exact (Kd.R_reads' HO175.out).2.2 | (with_reducible refine Kd.C_alloc ?_ _) | (with_reducible refine Kd.C_drewN ?_ _) | (with_reducible refine Kd.C_drew ?_))); (case aB => exact (by repeat (first | (with_reducible first | exact HB.out | apply below_alloc | apply pw_below_drewN | apply below_drew1) | exact HB.out))); (case aF => exact (fun k_ hk => Kd.fresh' (Kd.R_lt (by (with_reducible repeat (first | apply Kd.R_alloc | apply Kd.R_drewN | apply Kd.R_drew)); exact HO175.out)) k_ hk)); (case aO => exact (by (with_reducible repeat (first | apply Kd.R_alloc | apply Kd.R_drewN | apply Kd.R_drew)); exact Kd.R_mono HO_5.out (fun _ hk => hk.2))); (case aS => exact (below_size (by repeat (first | (with_reducible first | exact HB.out | apply below_alloc | apply pw_below_drewN | apply below_drew1) | exact HB.out)))); (case aL => have := LMc15.out; omega); intro v177 w17 ho hb hg hat; rw [← Ny176.out] at ho; have n0_ := Aside0.mk (Kd.R_after (ok := (fun _ => True)) (by (with_reducible repeat (first | apply Kd.R_alloc | apply Kd.R_drewN | apply Kd.R_drew)); exact HO175.out) hg hat); have n1_ := Aside0.mk (hb); have n2_ := Aside0.mk (ho); clear HO175; clear HB; clear HO_5; have HO175 := n0_; have HB := n1_; have HO178 := n2_; clear n0_ n1_ n2_; clear ho hb hg hat))
                    go_roundg k2
                    case measure => have := HJ2.out; have := HK2.out; omega
                    case rel => exact ⟨(y176), (wrap64 (x24_2 + 1)), (by first | rfl | (simp; done) | (simp [*]; done)), H', ⟨by have := HJ2.out; have := HK2.out; omega⟩, ⟨by (with_reducible repeat (first | apply Kd.R_alloc | apply Kd.R_drewN | apply Kd.R_drew)); exact Kd.R_mono HO178.out (fun _ hk => trivial)⟩, ⟨by repeat (first | (with_reducible first | exact HB.out | apply below_alloc | apply pw_below_drewN | apply below_drew1) | exact HB.out)⟩⟩
                  · rw [if_neg c15] at H
                    exact absurd H (by simp)
                · rw [if_neg c13] at H
                  exact absurd H (by simp)
              · rw [if_neg c12] at H
                exact absurd H (by simp)
            · rw [if_neg c11] at H
              have c11b0 : decide (x24_2 < (l0.length : Int)) = false := decide_eq_false c11
              clear c11
              obtain rfl := Option.some.inj H
              go_wp2
              go_ret
              exact ⟨_, by first | rfl | (simp [errW_none, errW_some] <;> rfl) | (simp [*, errW_none, errW_some] <;> rfl), by (with_reducible repeat (first | apply Kd.R_alloc | apply Kd.R_drewN | apply Kd.R_drew)); exact HO_5.out, by repeat (first | (with_reducible first | exact HB.out | apply below_alloc | apply pw_below_drewN | apply below_drew1) | exact HB.out)⟩

theorem iListBins_l0 (l : List Int) (base : Int) (hl : l.length ≤ 4096) (hb : inR base 0 380 = true) (ha : ∀ (i : Nat) (h : i < l.length), coefB l[i] = true) : ∀ (d i : Nat) (out : List S31), i + d = l.length → out.length ≤ 40 * i →
    Ev (fun k => impl_ListBins.l0 k base out l (l.length : Int) i) (out ++ listG (l.drop i) base) := by
  intro d
  induction d with
  | zero =>
    intro i out hi ho
    refine Ev.step (fun k => by rw [impl_ListBins.l0]) (evNeg (by omega) (evCast (Ev.now _) ?_))
    rw [List.drop_eq_nil_of_le (by omega)]
    simp [listG]
  | succ d ih =>
    intro i out hi ho
    have h1 : i < l.length := by omega
    have hc := ha i h1
    refine Ev.step (fun k => by rw [impl_ListBins.l0]) (evPos (by omega) (evPos (by omega) (evPos (by omega) ?_)))
    rw [drop_get h1, rd_nat h1]
    have hlen := binsN_length (base := base) hc
    refine evBind (ibins_f hc hb) (evPos (by omega) ?_)
    rw [w64 (by omega) (by omega), show (i : Int) + 1 = ((i + 1 : Nat) : Int) from by omega]
    refine evCast (ih (i + 1) _ (by omega) (by rw [List.length_append]; omega)) ?_
    rw [List.append_assoc]
    rfl
theorem iListBins_f (l : List Int) (base : Int) : Ev (fun k => impl_ListBins.f k l base) (listI l base) := by
  unfold impl_ListBins.f listI
  refine evIf (fun h => ?_) (fun h => ?_)
  · rw [if_neg (fun hh => by omega)]
    exact Ev.step (fun k => by rw [impl_ListBins.j0]) (evPos rfl (Ev.now _))
  · refine evBind (allWithin_f l _ _ (by unfold maxLen; omega)) (evIf (fun ha => ?_) (fun ha => ?_))
    · refine evBind (evConst (isBase_f _)) (Ev.step (fun k => by rw [impl_ListBins.j0]) ?_)
      by_cases hb : baseB base = true
      · have hb' : inR base 0 380 = true := hb
        refine evNeg (by simp [hb]) (evCast (iListBins_l0 l base (by omega) hb' (fun i h => List.all_eq_true.1 ha _ (List.getElem_mem h)) l.length 0 [] (by omega) (by simp)) ?_)
        rw [List.drop_zero, List.nil_append, if_pos ⟨by omega, hb', ha⟩]
      · rw [if_neg (fun hh => hb hh.2.1)]
        exact evPos (by simp [hb]) (Ev.now _)
    · rw [if_neg (fun hh => ha hh.2.2)]
      exact Ev.step (fun k => by rw [impl_ListBins.j0]) (evPos rfl (Ev.now _))

/-! ### impl_binReader_next: function 105 (by hand) -/
/-- The reader of bits, at block r; its likelihoods at block p; what it has still to read came in by w0. -/
def DecAt (w0 W : World) (r p : Nat) (bs : List Int) (s : Dec) : Prop :=
  LikAt W p s.lik ∧ (w0.heap.size ≤ p ∧ w0.heap.size ≤ r) ∧ ∃ A c, W.heap[r]? = some (.cells #[.pointer (some ⟨p, 0, none⟩), .int .i64 s.code, .int .i64 s.width, .slice A (bs.drop s.at_).length c] 114 (0, 0)) ∧
    (bs.drop s.at_).length ≤ c ∧ Kd.C (Kd.int .u8) w0 A (bs.drop s.at_).length (bs.drop s.at_)
theorem byteAt_drop (b : List Int) (n : Nat) : byteAt b n = rd (b.drop n) 0 := by
  unfold byteAt
  split
  · rename_i h
    rw [rd_nat h, show (0 : Int) = ((0 : Nat) : Int) from rfl, rd_nat (by rw [List.length_drop]; omega)]
    simp
  · rw [List.drop_eq_nil_of_le (by omega)]
    rfl
theorem dec_set {w0 W : World} {r p : Nat} {bs : List Int} {lik : List Int} {code width : Int} {n : Nat} (h : DecAt w0 W r p bs ⟨lik, code, width, n⟩) {A : Option Addr} {c : Nat} (m : Nat) (hl : (bs.drop m).length ≤ c) (hC : Kd.C (Kd.int .u8) w0 A (bs.drop m).length (bs.drop m)) :
    DecAt w0 (W.setCell ⟨r, 3, none⟩ (.slice A (bs.drop m).length c)) r p bs ⟨lik, code, width, m⟩ := by
  obtain ⟨L, hB, A0, c0, G, _, _⟩ := h
  refine ⟨blk_far L (blk_ne L G (by decide)) _, hB, A, c, ?_, hl, hC⟩
  rw [blk_set G 3]
  rfl
theorem keep_row {w w1 : World} {g p : Nat} (h : KeepBut w w1 g (some p)) (i : Nat) (u : Value) : KeepBut w (w1.setCell ⟨p, i, none⟩ u) g (some p) :=
  ⟨by rw [World.size_setCell]; exact h.1, fun k hk h1 h2 => (Below.heap_setCell w1 _ u k (fun e => h2 (by rw [e]))).trans (h.2 k hk h1 h2)⟩
theorem dec_drewN {w0 W : World} {r p : Nat} {bs : List Int} {s : Dec} (h : DecAt w0 W r p bs s) (n : Nat) : DecAt w0 (W.drewN n) r p bs s := h
theorem dec_drew {w0 W : World} {r p : Nat} {bs : List Int} {s : Dec} (h : DecAt w0 W r p bs s) : DecAt w0 W.drew r p bs s := h
theorem bytes_next {w0 : World} {A : Option Addr} {l : List Int} {c : Nat} (hC : Kd.C (Kd.int .u8) w0 A l.length l) (hl : l.length ≤ c) (h1 : 1 ≤ l.length) : Kd.C (Kd.int .u8) w0 (if c = 1 then A else A.map (·.add 1)) (l.drop 1).length (l.drop 1) := by
  have := ReadsInt.drop_ (readsInt_of.2 (Kd.reads_of_C (d := 0) hC)) 1 h1 hl
  rw [List.length_drop]
  exact Kd.C_of_reads (readsInt_of.1 this)
set_option maxHeartbeats 4000000 in
set_option maxRecDepth 100000 in
theorem iNext_calls (r p : Nat) (bs : List Int) (lik : List Int) (code width : Int) (n : Nat) (w0 W : World) (h : DecAt w0 W r p bs ⟨lik, code, width, n⟩) (hb : Below w0.heap.size w0 W) (hbs : BytesOk bs) :
    Calls Try.prog 105 #[.pointer (some ⟨r, 0, none⟩)] W fun e w' => e = .returned (.int .i64 (byteAt bs n)) ∧ DecAt w0 w' r p bs ⟨lik, code, width, n + 1⟩ ∧ Below w0.heap.size W w' ∧ KeepBut W w' r (some p) := by
  have HD := Aside0.mk h
  by_cases hn : bs.length ≤ n
  · have e0 : bs.drop n = [] := List.drop_eq_nil_of_le hn
    have e1 : bs.drop (n + 1) = [] := List.drop_eq_nil_of_le (by omega)
    have HE := Aside0.mk (show DecAt w0 W r p bs ⟨lik, code, width, n + 1⟩ from by
      have h2 := h
      unfold DecAt at h2 ⊢
      simp only [] at h2 ⊢
      rw [e0] at h2
      rw [e1]
      exact h2)
    obtain ⟨L, hP, A, c, G, hle, hC⟩ := h
    simp only [] at G
    rw [e0] at G
    have hc3 : W.cell? ⟨r, 3, none⟩ = some (.slice A 0 c) := (blk_cell G 3).trans rfl
    have HBY := Aside0.mk (show byteAt bs n = 0 from by unfold byteAt; rw [if_neg (by omega)])
    rw [HBY.out]
    clear HBY L hP G hb hle hC e0 e1 hn
    go_enter Try.func105, Try.ntmps105
    go_wp2
    go_ret
    exact ⟨rfl, HE.out, Below.refl _ _, KeepBut.refl _ _ _⟩
  · obtain ⟨L, hP, A, c, G, hle, hC⟩ := h
    have HP := Aside0.mk hP
    have HB := Aside0.mk hb
    have hc3 : W.cell? ⟨r, 3, none⟩ = some (.slice A (bs.drop n).length c) := (blk_cell G 3).trans rfl
    have hf3 := blk_frozen G 3
    have HBY := Aside0.mk (byteAt_drop bs n)
    rw [HBY.out]
    clear HBY L hP G hb
    have HN := Aside0.mk (show bs.drop (n + 1) = (bs.drop n).drop 1 from by rw [List.drop_drop])
    have HD1 := Aside0.mk (fun (A : Option Addr) (c : Nat) => dec_set (A := A) (c := c) HD.out (n + 1))
    rw [HN.out] at HD1
    have hbd : ∀ x ∈ bs.drop n, 0 ≤ x ∧ x ≤ 255 := fun x hx => hbs x (List.mem_of_mem_drop hx)
    have hne : bs.drop n ≠ [] := fun h => hn (List.drop_eq_nil_iff.1 h)
    generalize bs.drop n = l at hc3 hle hC HD1 hbd hne ⊢
    clear HN
    rcases l with _ | ⟨x, l⟩
    · exact absurd rfl hne
    · have hx0 := hbd x (by simp)
      obtain ⟨ad, e, hx⟩ := Kd.at_int hC 0 (by omega) (by simp)
      subst e
      replace hx : W.cell? ad = some (.int .u8 x) := pw_cell_below HB.out hx
      obtain ⟨hx0, hx1⟩ := hx0
      have HX := Aside0.mk (show rd (x :: l) 0 = x from rfl)
      rw [HX.out]
      have HC := Aside0.mk (bytes_next hC hle (by simp))
      have HL := Aside0.mk (show l.length + 1 ≤ c from hle)
      clear hC hle hbd hne hn
      by_cases hc1 : c = 1
      · subst hc1
        have HE := Aside0.mk (HD1.out (some ad) 0 (by show l.length ≤ 0; have := HL.out; omega) (by have := HC.out; rw [if_pos rfl] at this; exact this))
        go_enter Try.func105, Try.ntmps105
        go_wp2
        go_ret
        exact ⟨rfl, HE.out, (Below.refl _ _).setCell HP.out.2 _, (KeepBut.refl _ _ _).set_ _ _⟩
      · have hl1 : l.length + 1 ≤ c := HL.out
        have HE := Aside0.mk (HD1.out (some ⟨ad.block, ad.off + 1, none⟩) (c - 1) (by show l.length ≤ c - 1; have := HL.out; omega) (by
          have := HC.out
          rw [if_neg hc1] at this
          exact this))
        go_enter Try.func105, Try.ntmps105
        go_wp2
        go_ret
        exact ⟨rfl, HE.out, (Below.refl _ _).setCell HP.out.2 _, (KeepBut.refl _ _ _).set_ _ _⟩

/-! ### impl_newBinReader: function 72 (by hand) -/
theorem dec_code {w0 W : World} {r p : Nat} {bs : List Int} {lik : List Int} {code width : Int} {n : Nat} (h : DecAt w0 W r p bs ⟨lik, code, width, n⟩) (x : Int) : DecAt w0 (W.setCell ⟨r, 1, none⟩ (.int .i64 x)) r p bs ⟨lik, x, width, n⟩ := by
  obtain ⟨L, hB, A0, c0, G, h1, h2⟩ := h
  refine ⟨blk_far L (blk_ne L G (by decide)) _, hB, A0, c0, ?_, h1, h2⟩
  rw [blk_set G 1]
  rfl
theorem dec_width {w0 W : World} {r p : Nat} {bs : List Int} {lik : List Int} {code width : Int} {n : Nat} (h : DecAt w0 W r p bs ⟨lik, code, width, n⟩) (x : Int) : DecAt w0 (W.setCell ⟨r, 2, none⟩ (.int .i64 x)) r p bs ⟨lik, code, x, n⟩ := by
  obtain ⟨L, hB, A0, c0, G, h1, h2⟩ := h
  refine ⟨blk_far L (blk_ne L G (by decide)) _, hB, A0, c0, ?_, h1, h2⟩
  rw [blk_set G 2]
  rfl
theorem dec_lik {w0 W : World} {r p : Nat} {bs : List Int} {lik : List Int} {code width : Int} {n : Nat} (h : DecAt w0 W r p bs ⟨lik, code, width, n⟩) (i : Nat) (x : Int) : DecAt w0 (W.setCell ⟨p, i, none⟩ (.int .i64 x)) r p bs ⟨lik.set i x, code, width, n⟩ := by
  obtain ⟨L, hB, A0, c0, G, h1, h2⟩ := h
  exact ⟨lik_set L i x, hB, A0, c0, blk_far G (fun e => blk_ne L G (by decide) e.symm) _, h1, h2⟩
theorem dec_cells {w0 W : World} {r p : Nat} {bs : List Int} {lik : List Int} {code width : Int} {n : Nat} (h : DecAt w0 W r p bs ⟨lik, code, width, n⟩) :
    W.cell? ⟨r, 0, none⟩ = some (.pointer (some ⟨p, 0, none⟩)) ∧ W.cell? ⟨r, 1, none⟩ = some (.int .i64 code) ∧ W.cell? ⟨r, 2, none⟩ = some (.int .i64 width) ∧ W.frozen? ⟨r, 1, none⟩ = false ∧ W.frozen? ⟨r, 2, none⟩ = false ∧ r < W.heap.size ∧ p < W.heap.size ∧ w0.heap.size ≤ r ∧ w0.heap.size ≤ p := by
  obtain ⟨L, hB, A0, c0, G, h1, h2⟩ := h
  exact ⟨(blk_cell G 0).trans rfl, (blk_cell G 1).trans rfl, (blk_cell G 2).trans rfl, blk_frozen G 1, blk_frozen G 2, blk_lt G, blk_lt L, hB.2, hB.1⟩
theorem numAt_range {b : List Int} (h : BytesOk b) : ∀ k : Nat, 0 ≤ numAt b k ∧ numAt b k < 256 ^ k
  | 0 => by simp [numAt]
  | k + 1 => by
    have h1 := numAt_range h k
    have h2 := byteAt_range h k
    rw [pow_step]
    unfold numAt
    omega
theorem numAt_start {b : List Int} : (⟨likL, numAt b 4, 4294967295, 4⟩ : Dec) = startD b := by
  unfold startD
  congr 1
  simp only [numAt]
  omega
def GotReader (w0 : World) (bs : List Int) (e : Ending) (w' : World) : Prop := ∃ r p, e = .returned (.pointer (some ⟨r, 0, none⟩)) ∧ DecAt w0 w' r p bs (startD bs) ∧ Below w0.heap.size w0 w'
set_option maxHeartbeats 4000000 in
set_option maxRecDepth 100000 in
theorem iNewReader_calls (A : Option Addr) (c : Nat) (bs : List Int) (w0 W : World) (hr : Kd.C (Kd.int .u8) w0 A bs.length bs) (hl : bs.length ≤ c) (hb : Below w0.heap.size w0 W) (hbs : BytesOk bs) :
    Calls Try.prog 72 #[.slice A bs.length c] W (GotReader w0 bs) := by
  have HR := Aside0.mk hr
  have HL := Aside0.mk hl
  have HB := Aside0.mk hb
  have HBS := Aside0.mk hbs
  clear hr hl hb hbs
  go_enter Try.func72, Try.ntmps72
  go_wp2_with (go_at_call 98; (with_reducible refine (iNewLik_calls _).mono ?_); rintro e w1 ⟨p, rfl, hlk, hp, hb⟩; have HLK := Aside0.mk hlk; have HP := Aside0.mk hp; have HB1 := Aside0.mk (below_step HB.out hb); clear hlk hp hb)
  obtain ⟨W2, HW2⟩ : ∃ W2, Aside0 (W2 = w1.alloc (.cells #[.pointer (some ⟨p, 0, none⟩), .int .i64 0, .int .i64 4294967295, .slice A bs.length c] 114)) := ⟨_, ⟨rfl⟩⟩
  have HD := Aside0.mk (show DecAt w0 W2 w1.heap.size p bs ⟨likL, numAt bs 0, 4294967295, 0⟩ from by
    rw [HW2.out]
    have hb2 := below_alloc (Below.refl w1.heap.size w1) (.cells #[.pointer (some ⟨p, 0, none⟩), .int .i64 0, .int .i64 4294967295, .slice A bs.length c] 114)
    exact ⟨(hb2.block p (blk_lt HLK.out)).trans HLK.out, ⟨Nat.le_trans (below_size HB.out) HP.out, below_size HB1.out⟩, A, c, blk_new w1 _, HL.out, HR.out⟩)
  have HB2 := Aside0.mk (show Below w0.heap.size w0 W2 from by rw [HW2.out]; exact below_alloc HB1.out _)
  obtain ⟨r, HRR⟩ : ∃ r, Aside0 (r = w1.heap.size) := ⟨_, ⟨rfl⟩⟩
  rw [← HRR.out] at HD
  rw [← HW2.out, ← HRR.out]
  clear HW2 HB HB1 HLK HP HRR
  go_loopg [8] 4 (fun kq v8 w' => ∃ (k : Nat), v8 = .int .i64 (k : Int) ∧ Aside0 (k + kq = 4) ∧ Aside0 (DecAt w0 w' r p bs ⟨likL, numAt bs k, 4294967295, k⟩) ∧ Aside0 (Below w0.heap.size w0 w'))
  case atStart => exact ⟨0, rfl, ⟨rfl⟩, HD, HB2⟩
  case round =>
    clear HD HB2
    obtain ⟨k, rfl, HQ, HD, HB⟩ := hrel
    by_cases hk : k < 4
    · have hk2 : (k : Int) < 4 := by omega
      have hnr := numAt_range HBS.out k
      have hn1 : numAt bs k ≤ 16777215 := by
        obtain rfl | rfl | rfl | rfl : k = 0 ∨ k = 1 ∨ k = 2 ∨ k = 3 := by omega
        all_goals have := hnr.2; omega
      have hn0 : 0 ≤ numAt bs k := hnr.1
      have hby := byteAt_range HBS.out k
      have HNX := Aside0.mk (show numAt bs (k + 1) = numAt bs k * 256 + byteAt bs k from by show 256 * numAt bs k + byteAt bs k = _; omega)
      clear hnr
      obtain ⟨hb0, hb1⟩ := hby
      obtain ⟨h0, h1, h2, f1, f2, hrl, hpl, hr0, hp0⟩ := dec_cells HD.out
      generalize HM : numAt bs k = m at hn0 hn1 HNX HD h1
      generalize HY : byteAt bs k = y at hb0 hb1 HNX
      have HY2 := Aside0.mk HY
      clear HM HY
      go_wp2
      go_region_with (go_at_call 105; (with_reducible refine (iNext_calls r p bs likL m 4294967295 k w0 _ (dec_drew HD.out) (below_drew HB.out) HBS.out).mono ?_); rintro e W3 ⟨rfl, d3, b3, -⟩; rw [HY2.out]; have D3 := Aside0.mk d3; have B3 := Aside0.mk ((below_drew HB.out).trans b3); clear d3 b3; obtain ⟨g0, g1, g2, e1, e2, -, -, -, -⟩ := dec_cells D3.out)
      all_goals
        go_wp2
        go_roundg (4 - (k + 1))
        case measure => have := HQ.out; omega
        case rel => exact ⟨k + 1, by first | rfl | go_num | simp, ⟨by have := HQ.out; omega⟩, ⟨by rw [HNX.out]; exact dec_code D3.out _⟩, ⟨B3.out.setCell hr0 _⟩⟩
    · have hk2 : ¬ (k : Int) < 4 := by omega
      have e := HQ.out
      obtain rfl : k = 4 := by omega
      clear e
      go_wp2
      go_ret
      exact ⟨r, p, rfl, by rw [← numAt_start]; exact HD.out, HB.out⟩

/-! ### impl_binReader_bit: function 73 (by hand) -/
set_option maxHeartbeats 4000000 in
set_option maxRecDepth 100000 in
theorem iBit_calls (r p : Nat) (bs : List Int) (lik : List Int) (code width : Int) (n ctx : Nat) (w0 W : World) (h : DecAt w0 W r p bs ⟨lik, code, width, n⟩) (hs : DecOk ⟨lik, code, width, n⟩) (hc : ctx < 400) (hb : Below w0.heap.size w0 W) (hbs : BytesOk bs) :
    Calls Try.prog 73 #[.pointer (some ⟨r, 0, none⟩), .int .i64 ctx] W fun e w' => e = .returned (.int .i64 (bitD ⟨lik, code, width, n⟩ ctx)) ∧ DecAt w0 w' r p bs (stepD bs ⟨lik, code, width, n⟩ ctx) ∧ Below w0.heap.size w0 w' ∧ KeepBut W w' r (some p) := by
  have hc0 : 0 ≤ code := hs.c0
  have hc1 : code ≤ 4294967295 := hs.c1
  have hw0 : 16777216 ≤ width := hs.w0
  have hw1 : width ≤ 4294967295 := hs.w1
  have hlk : LikOk lik := hs.lik
  have hr := lik_rd hlk (c := (ctx : Int)) (by omega) (by omega)
  have hpr := partE_range hlk hw0 (ctx := (ctx : Int)) (by omega) (by omega)
  have HD0 := Aside0.mk h
  have HB := Aside0.mk hb
  have HBS := Aside0.mk hbs
  obtain ⟨hb0, hb1, hb2, hf1, hf2, hrl, hpl, hrB, hpB⟩ := dec_cells h
  have hcl := lik_cell h.1 ctx (show ctx < lik.length from by rw [hlk.1]; exact hc)
  replace hcl : W.cell? ⟨p, ctx, none⟩ = some (.int .i64 (rd lik (ctx : Int))) := hcl
  obtain ⟨x, HX⟩ : ∃ x, Aside0 (x = rd lik (ctx : Int)) := ⟨_, ⟨rfl⟩⟩
  rw [← HX.out] at hr hcl
  obtain ⟨pt, HPT⟩ : ∃ pt, Aside0 (pt = partE lik width (ctx : Int)) := ⟨_, ⟨rfl⟩⟩
  rw [← HPT.out] at hpr
  have hmul : wrap64 (width / 4096 * x) = pt := by
    have e : width / 4096 * x = pt := by rw [HPT.out, HX.out]; rfl
    rw [e]
    exact w64 (by omega) (by omega)
  have hmul2 : IntKind.i64.wrap (width / 4096 * x) = pt := (i64_w _).trans hmul
  obtain ⟨hr0, hr1⟩ := hr
  obtain ⟨hp0, hp1⟩ := hpr
  have HK := Aside0.mk hlk
  have hlt : (ctx : Int) < 400 := by omega
  clear hlk h hb hbs
  by_cases hcmp : code < pt
  · have HBD := Aside0.mk (show bitD ⟨lik, code, width, n⟩ ctx = 0 from by unfold bitD; simp only []; rw [← HPT.out, if_pos hcmp])
    have HCD := Aside0.mk (show codeD ⟨lik, code, width, n⟩ ctx = code from by unfold codeD; simp only []; rw [← HPT.out, if_pos hcmp])
    have HWD := Aside0.mk (show widthD ⟨lik, code, width, n⟩ ctx = pt from by unfold widthD; simp only []; rw [← HPT.out, if_pos hcmp])
    go_enter Try.func73, Try.ntmps73
    go_wp2
    go_quiet (fail)
    go_wp2_with fail
    obtain ⟨W1, HW1⟩ : ∃ W1, Aside0 (W1 = (W.drewN nq).setCell ⟨r, 2, none⟩ (.int .i64 pt)) := ⟨_, ⟨rfl⟩⟩
    have D1 := Aside0.mk (show DecAt w0 W1 r p bs ⟨lik, code, pt, n⟩ from by rw [HW1.out]; exact dec_width (dec_drewN HD0.out _) pt)
    have B1 := Aside0.mk (show Below w0.heap.size w0 W1 from by rw [HW1.out]; exact (pw_below_drewN HB.out _).setCell hrB _)
    have K1 := Aside0.mk (show KeepBut W W1 r (some p) from by rw [HW1.out]; exact (show KeepBut W (W.drewN nq) r (some p) from KeepBut.refl _ _ _).set_ _ _)
    rw [← HW1.out]
    clear HW1 hb1 hb2 hf1 hf2 hb0 hcl
    obtain ⟨hb0, hb1, hb2, hf1, hf2, hrl1, hpl1, -, -⟩ := dec_cells D1.out
    go_wp2_with fail
    refine (iLearn_calls p lik ctx 0 _ D1.out.1 HK.out hc).mono ?_
    rintro e w' ⟨rfl, ⟨nl, rfl⟩⟩
    obtain ⟨W2, HW2⟩ : ∃ W2, Aside0 (W2 = (W1.setCell ⟨p, ctx, none⟩ (.int .i64 (learnP (rd lik ctx) 0))).drewN nl) := ⟨_, ⟨rfl⟩⟩
    have D2 := Aside0.mk (show DecAt w0 W2 r p bs ⟨learnL lik ctx 0, code, pt, n⟩ from by rw [HW2.out]; exact dec_drewN (dec_lik D1.out ctx _) _)
    have B2 := Aside0.mk (show Below w0.heap.size w0 W2 from by rw [HW2.out]; exact pw_below_drewN (B1.out.setCell hpB _) _)
    have K2 := Aside0.mk (show KeepBut W W2 r (some p) from by rw [HW2.out]; exact keep_row K1.out _ _)
    rw [← HW2.out]
    clear HW2 hb0 hb1 hb2 hf1 hf2 D1 B1 K1
    go_wp2
    obtain ⟨hb0, hb1, hb2, hf1, hf2, hrl2, hpl2, -, -⟩ := dec_cells D2.out
    by_cases hsm : pt < 16777216
    · have HE := Aside0.mk (show stepD bs ⟨lik, code, width, n⟩ ctx = ⟨learnL lik ctx 0, code % 16777216 * 256 + byteAt bs n, pt * 256, n + 1⟩ from by
        unfold stepD
        rw [HWD.out, HBD.out, HCD.out, if_pos hsm])
      have hby := byteAt_range HBS.out n
      obtain ⟨y, HY⟩ : ∃ y, Aside0 (byteAt bs n = y) := ⟨_, ⟨rfl⟩⟩
      rw [HY.out] at hby HE
      obtain ⟨hy0, hy1⟩ := hby
      have hq0 : 0 ≤ code % 16777216 := by omega
      have hq1 : code % 16777216 ≤ 16777215 := by omega
      have hq2 : 16777216 ≤ pt * 256 := by omega
      have hq3 : pt * 256 ≤ 4294967296 := by omega
      refine wp_loop_rounds 2 ?_
      rw [rounds_succ]
      go_wp2
      go_region_with (go_at_call 105; (with_reducible refine (iNext_calls r p bs (learnL lik ctx 0) (code) (pt) n w0 _ (dec_drew D2.out) (below_drew B2.out) HBS.out).mono ?_); rintro e W3 ⟨rfl, d3, b3, k3⟩; rw [HY.out]; have D3 := Aside0.mk d3; have K3 := Aside0.mk (KeepBut.trans (show KeepBut W W2.drew r (some p) from K2.out) k3 (.inl rfl)); clear k3; have B3 := Aside0.mk ((below_drew B2.out).trans b3); clear d3 b3; obtain ⟨g0, g1, g2, e1, e2, -, -, -, -⟩ := dec_cells D3.out)
      all_goals
        go_wp2
        rw [rounds_succ]
        go_wp2
        go_ret
        exact ⟨by rw [HBD.out] <;> rfl, by rw [HE.out]; exact dec_width (dec_code D3.out _) _, (B3.out.setCell hrB _).setCell hrB _, (K3.out.set_ _ _).set_ _ _⟩
    · have HE := Aside0.mk (show stepD bs ⟨lik, code, width, n⟩ ctx = ⟨learnL lik ctx 0, code, pt, n⟩ from by
        unfold stepD
        rw [HWD.out, HBD.out, HCD.out, if_neg hsm])
      have hq2 : 16777216 ≤ pt := by omega
      refine wp_loop_rounds 1 ?_
      rw [rounds_succ]
      go_wp2
      go_ret
      exact ⟨by rw [HBD.out] <;> rfl, by rw [HE.out]; exact D2.out, B2.out, K2.out⟩
  · have HBD := Aside0.mk (show bitD ⟨lik, code, width, n⟩ ctx = 1 from by unfold bitD; simp only []; rw [← HPT.out, if_neg hcmp])
    have HCD := Aside0.mk (show codeD ⟨lik, code, width, n⟩ ctx = code - pt from by unfold codeD; simp only []; rw [← HPT.out, if_neg hcmp])
    have HWD := Aside0.mk (show widthD ⟨lik, code, width, n⟩ ctx = width - pt from by unfold widthD; simp only []; rw [← HPT.out, if_neg hcmp])
    have hge : pt ≤ code := by omega
    go_enter Try.func73, Try.ntmps73
    go_wp2
    go_quiet (fail)
    go_wp2_with fail
    go_region
    go_wp2_with fail
    obtain ⟨W1, HW1⟩ : ∃ W1, Aside0 (W1 = ((W.drewN (nq + 1)).setCell ⟨r, 1, none⟩ (.int .i64 (code - pt))).setCell ⟨r, 2, none⟩ (.int .i64 (width - pt))) := ⟨_, ⟨rfl⟩⟩
    have D1 := Aside0.mk (show DecAt w0 W1 r p bs ⟨lik, (code - pt), (width - pt), n⟩ from by rw [HW1.out]; exact dec_width (dec_code (dec_drewN HD0.out _) _) _)
    have B1 := Aside0.mk (show Below w0.heap.size w0 W1 from by rw [HW1.out]; exact ((pw_below_drewN HB.out _).setCell hrB _).setCell hrB _)
    have K1 := Aside0.mk (show KeepBut W W1 r (some p) from by rw [HW1.out]; exact ((show KeepBut W (W.drewN (nq + 1)) r (some p) from KeepBut.refl _ _ _).set_ _ _).set_ _ _)
    rw [← HW1.out]
    clear HW1 hb1 hb2 hf1 hf2 hb0 hcl
    obtain ⟨hb0, hb1, hb2, hf1, hf2, hrl1, hpl1, -, -⟩ := dec_cells D1.out
    go_wp2_with fail
    refine (iLearn_calls p lik ctx 1 _ D1.out.1 HK.out hc).mono ?_
    rintro e w' ⟨rfl, ⟨nl, rfl⟩⟩
    obtain ⟨W2, HW2⟩ : ∃ W2, Aside0 (W2 = (W1.setCell ⟨p, ctx, none⟩ (.int .i64 (learnP (rd lik ctx) 1))).drewN nl) := ⟨_, ⟨rfl⟩⟩
    have D2 := Aside0.mk (show DecAt w0 W2 r p bs ⟨learnL lik ctx 1, (code - pt), (width - pt), n⟩ from by rw [HW2.out]; exact dec_drewN (dec_lik D1.out ctx _) _)
    have B2 := Aside0.mk (show Below w0.heap.size w0 W2 from by rw [HW2.out]; exact pw_below_drewN (B1.out.setCell hpB _) _)
    have K2 := Aside0.mk (show KeepBut W W2 r (some p) from by rw [HW2.out]; exact keep_row K1.out _ _)
    rw [← HW2.out]
    clear HW2 hb0 hb1 hb2 hf1 hf2 D1 B1 K1
    go_wp2
    obtain ⟨hb0, hb1, hb2, hf1, hf2, hrl2, hpl2, -, -⟩ := dec_cells D2.out
    by_cases hsm : (width - pt) < 16777216
    · have HE := Aside0.mk (show stepD bs ⟨lik, code, width, n⟩ ctx = ⟨learnL lik ctx 1, (code - pt) % 16777216 * 256 + byteAt bs n, (width - pt) * 256, n + 1⟩ from by
        unfold stepD
        rw [HWD.out, HBD.out, HCD.out, if_pos hsm])
      have hby := byteAt_range HBS.out n
      obtain ⟨y, HY⟩ : ∃ y, Aside0 (byteAt bs n = y) := ⟨_, ⟨rfl⟩⟩
      rw [HY.out] at hby HE
      obtain ⟨hy0, hy1⟩ := hby
      have hq0 : 0 ≤ (code - pt) % 16777216 := by omega
      have hq1 : (code - pt) % 16777216 ≤ 16777215 := by omega
      have hq2 : 16777216 ≤ (width - pt) * 256 := by omega
      have hq3 : (width - pt) * 256 ≤ 4294967296 := by omega
      refine wp_loop_rounds 2 ?_
      rw [rounds_succ]
      go_wp2
      go_region_with (go_at_call 105; (with_reducible refine (iNext_calls r p bs (learnL lik ctx 1) ((code - pt)) ((width - pt)) n w0 _ (dec_drew D2.out) (below_drew B2.out) HBS.out).mono ?_); rintro e W3 ⟨rfl, d3, b3, k3⟩; rw [HY.out]; have D3 := Aside0.mk d3; have K3 := Aside0.mk (KeepBut.trans (show KeepBut W W2.drew r (some p) from K2.out) k3 (.inl rfl)); clear k3; have B3 := Aside0.mk ((below_drew B2.out).trans b3); clear d3 b3; obtain ⟨g0, g1, g2, e1, e2, -, -, -, -⟩ := dec_cells D3.out)
      all_goals
        go_wp2
        rw [rounds_succ]
        go_wp2
        go_ret
        exact ⟨by rw [HBD.out] <;> rfl, by rw [HE.out]; exact dec_width (dec_code D3.out _) _, (B3.out.setCell hrB _).setCell hrB _, (K3.out.set_ _ _).set_ _ _⟩
    · have HE := Aside0.mk (show stepD bs ⟨lik, code, width, n⟩ ctx = ⟨learnL lik ctx 1, (code - pt), (width - pt), n⟩ from by
        unfold stepD
        rw [HWD.out, HBD.out, HCD.out, if_neg hsm])
      have hq2 : 16777216 ≤ (width - pt) := by omega
      refine wp_loop_rounds 1 ?_
      rw [rounds_succ]
      go_wp2
      go_ret
      exact ⟨by rw [HBD.out] <;> rfl, by rw [HE.out]; exact D2.out, B2.out, K2.out⟩
theorem bitsD_snoc (b : List Int) : ∀ (l : List Int) (s : Dec) (c : Int), bitsD b s (l ++ [c]) = bitsD b s l ++ [bitD (l.foldl (stepD b) s) c]
  | [], s, c => rfl
  | x :: l, s, c => by
    show bitD s x :: bitsD b (stepD b s x) (l ++ [c]) = _
    rw [bitsD_snoc b l]
    rfl
def stK (b l : List Int) (k : Nat) : Dec := (l.take k).foldl (stepD b) (startD b)
def outK (b l : List Int) (k : Nat) : List Int := bitsD b (startD b) (l.take k)
theorem stK_succ (b l : List Int) {k : Nat} (hk : k < l.length) : stK b l (k + 1) = stepD b (stK b l k) l[k] := by
  unfold stK
  rw [List.take_succ_eq_append_getElem hk, List.foldl_append]
  rfl
theorem outK_succ (b l : List Int) {k : Nat} (hk : k < l.length) : outK b l (k + 1) = outK b l k ++ [bitD (stK b l k) l[k]] := by
  unfold outK stK
  rw [List.take_succ_eq_append_getElem hk, bitsD_snoc]
theorem outK_length (b l : List Int) (k : Nat) (hk : k ≤ l.length) : (outK b l k).length = k := by
  unfold outK
  rw [bitsD_length, List.length_take]
  omega
theorem stK_ok {b : List Int} (hb : BytesOk b) (l : List Int) (hl : ∀ x ∈ l, 0 ≤ x ∧ x < 400) : ∀ k : Nat, k ≤ l.length → DecOk (stK b l k) ∧ (stK b l k).at_ ≤ k + 4
  | 0, _ => ⟨startD_ok hb, Nat.le_refl _⟩
  | k + 1, hk => by
    have ih := stK_ok hb l hl k (by omega)
    have hx := hl _ (List.getElem_mem (show k < l.length by omega))
    rw [stK_succ b l (by omega)]
    exact ⟨stepD_ok hb ih.1 hx.1 hx.2, Nat.le_trans (stepD_at b (stK b l k) l[k]).2 (by omega)⟩
def bytesB (l : List Int) : Bool := l.all fun x => decide (0 ≤ x) && decide (x ≤ 255)
theorem bytesB_ok {l : List Int} (h : bytesB l = true) : BytesOk l := fun x hx => by
  have := List.all_eq_true.1 h x hx
  simpa using this
def decodeI (b l : List Int) : List Int := if decide (l.length ≤ 200000) && allR l 0 399 then decL b l else []
theorem within_of {l : List Int} (h : allR l 0 399 = true) : ∀ x ∈ l, 0 ≤ x ∧ x < 400 := fun x hx => by
  have := List.all_eq_true.1 h x hx
  rw [inR_iff] at this
  omega
theorem lit_ints {w W : World} (hb : Below w.heap.size w W) (e r p : Nat) (h : W.heap.size ≠ r ∧ W.heap.size ≠ p) : Kd.R (Kd.int .i64) e (W.alloc (.cells #[] e)) w.heap.size (fun j => j ≠ r ∧ j ≠ p) (.slice (some ⟨W.heap.size, 0, none⟩) 0 0) [] := by
  have := World.ownsRow_lit (base := w.heap.size) (e := e) (size := 1) W #[] 0 hb.size (by decide) (by simp)
  exact ⟨fun k hk => by injection hk with hk; subst hk; exact h, [], this, Reps.none _ _⟩
theorem dec_grown {w0 W W1 : World} {r p : Nat} {bs : List Int} {s : Dec} {B : Nat} {ok : Nat → Prop} {v : Value} {ys : List Int} (h : DecAt w0 W r p bs s) (hR : Kd.R (Kd.int .i64) 3 W B ok v ys) (hg : W.grownBy W1 v.ownBlock) : DecAt w0 W1 r p bs s := by
  obtain ⟨L, hB, A, c, G, h1, h2⟩ := h
  exact ⟨blk_grown L hg (Kd.R_ne hR L (by decide)), hB, A, c, blk_grown G hg (Kd.R_ne hR G (by decide)), h1, h2⟩
theorem out_keep {W W1 : World} {r p e B : Nat} {v : Value} {ys : List Int} (h : Kd.R (Kd.int .i64) e W B (fun j => j ≠ r ∧ j ≠ p) v ys) (hk : KeepBut W W1 r (some p)) : Kd.R (Kd.int .i64) e W1 B (fun j => j ≠ r ∧ j ≠ p) v ys :=
  Kd.R_step h (fun k ho hlt => hk.2 k hlt ho.1 (fun e => ho.2 (Option.some.inj e)))
theorem dec_alloc {w0 W : World} {r p : Nat} {bs : List Int} {s : Dec} (h : DecAt w0 W r p bs s) (o : Obj) : DecAt w0 (W.alloc o) r p bs s := by
  have hb := below_alloc (Below.refl W.heap.size W) o
  obtain ⟨L, hB, A, c, G, h1, h2⟩ := h
  exact ⟨(hb.block p (blk_lt L)).trans L, hB, A, c, (hb.block r (blk_lt G)).trans G, h1, h2⟩
theorem dec_fresh {w0 W : World} {r p : Nat} {bs : List Int} {s : Dec} (h : DecAt w0 W r p bs s) : W.heap.size ≠ r ∧ W.heap.size ≠ p := by
  obtain ⟨L, hB, A, c, G, h1, h2⟩ := h
  have := blk_lt L
  have := blk_lt G
  omega
theorem dec_above {w0 W : World} {r p : Nat} {bs : List Int} {s : Dec} (h : DecAt w0 W r p bs s) : ∀ k, W.heap.size ≤ k → k ≠ r ∧ k ≠ p := by
  obtain ⟨L, hB, A, c, G, h1, h2⟩ := h
  have := blk_lt L
  have := blk_lt G
  omega

/-! ### impl_binReader_num: function 76 (by hand) -/
def clsD (b : List Int) (base : Int) : Nat → Dec → Nat × Dec
  | 0, s => (15, s)
  | d + 1, s => if bitD s (base + 1 + ((14 - d : Nat) : Int)) = 1 then clsD b base d (stepD b s (base + 1 + ((14 - d : Nat) : Int))) else (14 - d, stepD b s (base + 1 + ((14 - d : Nat) : Int)))
def magD (b : List Int) (x : Int) : Nat → Int → Dec → Int × Dec
  | 0, n, s => (n, s)
  | d + 1, n, s => magD b x d (2 * n + bitD s x) (stepD b s x)
def numD (b : List Int) (base : Int) (s : Dec) : Int × Dec :=
  if bitD s base = 1 then (0, stepD b s base)
  else
    let c := clsD b base 14 (stepD b (stepD b s base) (base + 1))
    let m := magD b (base + 18) (c.1 - 1) 1 c.2
    (if bitD (stepD b s base) (base + 1) = 1 then -m.1 else m.1, m.2)
theorem pow2_step (i : Nat) : (2 : Int) ^ (i + 1 + 1) = 2 * 2 ^ (i + 1) := by rw [Int.pow_succ, Int.mul_comm]
theorem pow2_le {i : Nat} (h : i ≤ 14) : (2 : Int) ^ (i + 1) ≤ 32768 := by
  obtain rfl | rfl | rfl | rfl | rfl | rfl | rfl | rfl | rfl | rfl | rfl | rfl | rfl | rfl | rfl : i = 0 ∨ i = 1 ∨ i = 2 ∨ i = 3 ∨ i = 4 ∨ i = 5 ∨ i = 6 ∨ i = 7 ∨ i = 8 ∨ i = 9 ∨ i = 10 ∨ i = 11 ∨ i = 12 ∨ i = 13 ∨ i = 14 := by omega
  all_goals decide
theorem bit01 (s : Dec) (x : Int) : bitD s x = 0 ∨ bitD s x = 1 := by
  unfold bitD
  split
  · exact .inl rfl
  · exact .inr rfl
theorem clsD_ok {b : List Int} (hb : BytesOk b) {base : Int} (h0 : 0 ≤ base) (h1 : base ≤ 380) : ∀ (d : Nat) (s : Dec), d ≤ 14 → DecOk s → DecOk (clsD b base d s).2 ∧ (clsD b base d s).2.at_ ≤ s.at_ + d ∧ 1 ≤ (clsD b base d s).1 ∧ (clsD b base d s).1 ≤ 15
  | 0, s, _, hs => ⟨hs, Nat.le_refl _, by show 1 ≤ 15; omega, Nat.le_refl _⟩
  | d + 1, s, hd, hs => by
    have h2 := stepD_ok hb hs (ctx := base + 1 + ((14 - d : Nat) : Int)) (by omega) (by omega)
    have h3 := (stepD_at b s (base + 1 + ((14 - d : Nat) : Int))).2
    unfold clsD
    split
    · have ih := clsD_ok hb h0 h1 d _ (by omega) h2
      exact ⟨ih.1, by omega, ih.2.2⟩
    · exact ⟨h2, by show (stepD b s (base + 1 + ((14 - d : Nat) : Int))).at_ ≤ _; omega, by show 1 ≤ 14 - d; omega, by show 14 - d ≤ 15; omega⟩
theorem magD_ok {b : List Int} (hb : BytesOk b) {x : Int} (h0 : 0 ≤ x) (h1 : x < 400) : ∀ (d : Nat) (n : Int) (s : Dec), DecOk s → DecOk (magD b x d n s).2 ∧ (magD b x d n s).2.at_ ≤ s.at_ + d
  | 0, n, s, hs => ⟨hs, Nat.le_refl _⟩
  | d + 1, n, s, hs => by
    have h3 := (stepD_at b s x).2
    have ih := magD_ok hb h0 h1 d (2 * n + bitD s x) _ (stepD_ok hb hs h0 h1)
    unfold magD
    exact ⟨ih.1, by omega⟩
theorem numD_ok {b : List Int} (hb : BytesOk b) {base : Int} (h0 : 0 ≤ base) (h1 : base ≤ 380) {s : Dec} (hs : DecOk s) : DecOk (numD b base s).2 ∧ (numD b base s).2.at_ ≤ s.at_ + 40 := by
  have a1 := stepD_ok hb hs h0 (show base < 400 by omega)
  have t1 := (stepD_at b s base).2
  have a2 := stepD_ok hb a1 (show 0 ≤ base + 1 by omega) (show base + 1 < 400 by omega)
  have t2 := (stepD_at b (stepD b s base) (base + 1)).2
  have a3 := clsD_ok hb h0 h1 14 _ (by omega) a2
  have a4 := magD_ok hb (show 0 ≤ base + 18 by omega) (show base + 18 < 400 by omega) ((clsD b base 14 (stepD b (stepD b s base) (base + 1))).1 - 1) 1 _ a3.1
  unfold numD
  split
  · exact ⟨a1, by show (stepD b s base).at_ ≤ _; omega⟩
  · exact ⟨a4.1, by show (magD b (base + 18) ((clsD b base 14 (stepD b (stepD b s base) (base + 1))).1 - 1) 1 (clsD b base 14 (stepD b (stepD b s base) (base + 1))).2).2.at_ ≤ _; omega⟩
theorem iBit_x (r p : Nat) (bs : List Int) (s : Dec) (x : Int) (w0 W : World) (h : DecAt w0 W r p bs s) (hs : DecOk s) (h0 : 0 ≤ x) (h1 : x < 400) (hb : Below w0.heap.size w0 W) (hbs : BytesOk bs) (ha : s.at_ ≤ 1000000000) :
    Calls Try.prog 73 #[.pointer (some ⟨r, 0, none⟩), .int .i64 x] W fun e w' => e = .returned (.int .i64 (bitD s x)) ∧ DecAt w0 w' r p bs (stepD bs s x) ∧ Below w0.heap.size w0 w' ∧ KeepBut W w' r (some p) := by
  obtain ⟨lik, code, width, n⟩ := s
  obtain ⟨c, rfl⟩ := Int.eq_ofNat_of_zero_le h0
  exact iBit_calls r p bs lik code width n c w0 W h hs (by omega) hb hbs
set_option maxHeartbeats 4000000 in
set_option maxRecDepth 100000 in
theorem iNum_calls (r p : Nat) (bs : List Int) (s : Dec) (base : Int) (w0 W : World) (h : DecAt w0 W r p bs s) (hs : DecOk s) (h0 : 0 ≤ base) (h1 : base ≤ 380) (hb : Below w0.heap.size w0 W) (hbs : BytesOk bs) (hat : s.at_ ≤ 900000000) :
    Calls Try.prog 76 #[.pointer (some ⟨r, 0, none⟩), .int .i64 base] W fun e w' => e = .returned (.int .i64 (numD bs base s).1) ∧ DecAt w0 w' r p bs (numD bs base s).2 ∧ Below w0.heap.size w0 w' ∧ KeepBut W w' r (some p) := by
  have D0 := Aside0.mk h
  have B0 := Aside0.mk hb
  have HBS := Aside0.mk hbs
  have S0 := Aside0.mk hs
  have K0 := Aside0.mk (KeepBut.refl W r (some p))
  have T0 := Aside0.mk hat
  clear h hb hbs hs hat
  by_cases hz : bitD s base = 1
  · have HN := Aside0.mk (show numD bs base s = (0, stepD bs s base) from by unfold numD; rw [if_pos hz])
    rw [HN.out]
    go_enter Try.func76, Try.ntmps76
    go_wp2_with (go_at_call 73; (with_reducible refine (iBit_x r p bs s base w0 _ D0.out S0.out h0 (by omega) B0.out HBS.out (Nat.le_trans T0.out (by decide))).mono ?_); rintro e W1 ⟨rfl, d, b, k⟩; rw [hz]; have D1 := Aside0.mk d; have B1 := Aside0.mk b; have K1 := Aside0.mk (KeepBut.trans K0.out k (.inl rfl)); clear d b k)
    go_ret
    exact ⟨rfl, D1.out, B1.out, K1.out⟩
  · have hz0 : bitD s base = 0 := (bit01 s base).resolve_right hz
    clear hz
    obtain ⟨s1, HS1⟩ : ∃ t, Aside0 (t = stepD bs s base) := ⟨_, ⟨rfl⟩⟩
    have S1 := Aside0.mk (show DecOk s1 from by rw [HS1.out]; exact stepD_ok HBS.out S0.out h0 (by omega))
    have T1 := Aside0.mk (show s1.at_ ≤ 900000001 from by rw [HS1.out]; exact Nat.le_trans (stepD_at bs s base).2 (Nat.succ_le_succ T0.out))
    obtain ⟨sg, HSG⟩ : ∃ t, Aside0 (t = bitD s1 (base + 1)) := ⟨_, ⟨rfl⟩⟩
    have hsg : sg = 0 ∨ sg = 1 := by rw [HSG.out]; exact bit01 _ _
    obtain ⟨s2, HS2⟩ : ∃ t, Aside0 (t = stepD bs s1 (base + 1)) := ⟨_, ⟨rfl⟩⟩
    have S2 := Aside0.mk (show DecOk s2 from by rw [HS2.out]; exact stepD_ok HBS.out S1.out (by omega) (by omega))
    have T2 := Aside0.mk (show s2.at_ ≤ 900000002 from by rw [HS2.out]; exact Nat.le_trans (stepD_at bs s1 (base + 1)).2 (Nat.succ_le_succ T1.out))
    have HN := Aside0.mk (show numD bs base s = (if sg = 1 then -(magD bs (base + 18) ((clsD bs base 14 s2).1 - 1) 1 (clsD bs base 14 s2).2).1 else (magD bs (base + 18) ((clsD bs base 14 s2).1 - 1) 1 (clsD bs base 14 s2).2).1, (magD bs (base + 18) ((clsD bs base 14 s2).1 - 1) 1 (clsD bs base 14 s2).2).2) from by unfold numD; rw [hz0, if_neg (by decide), HS2.out, HSG.out, HS1.out])
    go_enter Try.func76, Try.ntmps76
    go_wp2_with (first
      | (go_at_call 73; (with_reducible refine (iBit_x r p bs s base w0 _ D0.out S0.out h0 (by omega) B0.out HBS.out (Nat.le_trans T0.out (by decide))).mono ?_); rintro e W1 ⟨rfl, d, b, k⟩; rw [hz0]; rw [← HS1.out] at d; have D1 := Aside0.mk d; have B1 := Aside0.mk b; have K1 := Aside0.mk (KeepBut.trans K0.out k (.inl rfl)); clear d b k)
      | (go_at_call 73; (with_reducible refine (iBit_x r p bs s1 (base + 1) w0 _ D1.out S1.out (by omega) (by omega) B1.out HBS.out (Nat.le_trans T1.out (by decide))).mono ?_); rintro e W2 ⟨rfl, d, b, k⟩; rw [← HSG.out]; rw [← HS2.out] at d; have D2 := Aside0.mk d; have B2 := Aside0.mk b; have K2 := Aside0.mk (KeepBut.trans K1.out k (.inl rfl)); clear d b k))
    clear hz0 HS1 HS2 HSG S0 S1 T0 T1
    go_loopg [6] 14 (fun kq vc w' => ∃ (d : Nat) (t : Dec), vc = .int .i64 (((15 - d : Nat) : Nat) : Int) ∧ Aside0 (d = kq ∧ d ≤ 14) ∧ Aside0 (DecOk t ∧ t.at_ + d ≤ 900000020) ∧ Aside0 (clsD bs base d t = clsD bs base 14 s2) ∧ Aside0 (DecAt w0 w' r p bs t) ∧ Aside0 (Below w0.heap.size w0 w') ∧ Aside0 (KeepBut W w' r (some p)))
    case atStart => exact ⟨14, s2, rfl, ⟨rfl, Nat.le_refl _⟩, ⟨S2.out, by have := T2.out; omega⟩, ⟨rfl⟩, D2, B2, K2⟩
    case round =>
      clear D2 B2 K2 S2 T2
      obtain ⟨d, t, rfl, HQ, HT, HC, D3, B3, K3⟩ := hrel
      obtain ⟨CN, HCN⟩ : ∃ CN : Nat, Aside0 (CN = 15 - d) := ⟨_, ⟨rfl⟩⟩
      rw [← HCN.out]
      have hc1 : 1 ≤ CN := by have := HCN.out; have := HQ.out.2; omega
      have hc15 : CN ≤ 15 := by have := HCN.out; omega
      have hci1 : 1 ≤ (CN : Int) := by omega
      have hci15 : (CN : Int) ≤ 15 := by omega
      rcases Nat.eq_zero_or_pos d with hd | hd
      · have hcl : ¬ (CN : Int) < 15 := by have := HCN.out; omega
        have HM := Aside0.mk (show clsD bs base 14 s2 = (CN, t) from by rw [← HC.out, HCN.out, hd]; rfl)
        have HT' := Aside0.mk (show DecOk t ∧ t.at_ ≤ 900000020 from ⟨HT.out.1, by have := HT.out.2; omega⟩)
        clear HC HT hd HQ HCN
        go_wp2
        have HNN := Aside0.mk (show numD bs base s = (if sg = 1 then -(magD bs (base + 18) (CN - 1) 1 t).1 else (magD bs (base + 18) (CN - 1) 1 t).1, (magD bs (base + 18) (CN - 1) 1 t).2) from by rw [HN.out, HM.out])
        clear HN HM
        go_loopg [7, 31] (CN - 1) (fun kq vn vi w' => ∃ (i : Nat) (n : Int) (t2 : Dec), vn = .int .i64 n ∧ vi = .int .i64 (i : Int) ∧ Aside0 (i + kq = CN - 1 ∧ 1 ≤ n ∧ n < 2 ^ (i + 1)) ∧ Aside0 (DecOk t2 ∧ t2.at_ ≤ 900000020 + i) ∧ Aside0 (magD bs (base + 18) (CN - 1 - i) n t2 = magD bs (base + 18) (CN - 1) 1 t) ∧ Aside0 (DecAt w0 w' r p bs t2) ∧ Aside0 (Below w0.heap.size w0 w') ∧ Aside0 (KeepBut W w' r (some p)))
        case atStart => exact ⟨0, 1, t, rfl, rfl, ⟨by omega, by decide, by decide⟩, ⟨HT'.out.1, HT'.out.2⟩, ⟨rfl⟩, D3, B3, K3⟩
        case round =>
          clear D3 B3 K3 HT'
          obtain ⟨i, n, t2, rfl, rfl, HQ2, HT2, HM2, D5, B5, K5⟩ := hrel
          by_cases hi : (i : Int) < (CN : Int) - 1
          · have hn1 : 1 ≤ n := HQ2.out.2.1
            have hn2 : n < 32768 := Int.lt_of_lt_of_le HQ2.out.2.2 (pow2_le (by omega))
            obtain ⟨y, HY⟩ : ∃ y, Aside0 (y = bitD t2 (base + 18)) := ⟨_, ⟨rfl⟩⟩
            have hy : y = 0 ∨ y = 1 := by rw [HY.out]; exact bit01 _ _
            have hy0 : 0 ≤ y := by omega
            have hy1 : y ≤ 1 := by omega
            have HM3 := Aside0.mk (show magD bs (base + 18) (CN - 1 - (i + 1)) (2 * n + y) (stepD bs t2 (base + 18)) = magD bs (base + 18) (CN - 1) 1 t from by rw [← HM2.out, HY.out, show CN - 1 - i = (CN - 1 - (i + 1)) + 1 from by omega]; rfl)
            have HS6 := Aside0.mk (show DecOk (stepD bs t2 (base + 18)) from stepD_ok HBS.out HT2.out.1 (by omega) (by omega))
            have HT6 := Aside0.mk (show (stepD bs t2 (base + 18)).at_ ≤ 900000020 + (i + 1) from by have := (stepD_at bs t2 (base + 18)).2; have := HT2.out.2; omega)
            have HP := Aside0.mk (pow2_step i)
            clear hy HM2
            go_wp2_with (go_at_call 73; (with_reducible refine (iBit_x r p bs t2 (base + 18) w0 _ D5.out HT2.out.1 (by omega) (by omega) B5.out HBS.out (by have := HT2.out.2; omega)).mono ?_); rintro e W6 ⟨rfl, d, b, k⟩; rw [← HY.out]; have D6 := Aside0.mk d; have B6 := Aside0.mk b; have K6 := Aside0.mk (KeepBut.trans K5.out k (.inl rfl)); clear d b k)
            go_roundg (CN - 1 - (i + 1))
            case measure => have := HQ2.out.1; omega
            case rel => exact ⟨i + 1, 2 * n + y, _, rfl, by first | rfl | go_num | simp, ⟨by have := HQ2.out.1; omega, by omega, by rw [HP.out]; have := HQ2.out.2.2; omega⟩, ⟨HS6.out, HT6.out⟩, HM3, D6, B6, K6⟩
          · have HEQ := Aside0.mk (show magD bs (base + 18) (CN - 1) 1 t = (n, t2) from by rw [← HM2.out, show CN - 1 - i = 0 from by have := HQ2.out.1; omega]; rfl)
            have HN5 := Aside0.mk (show numD bs base s = (if sg = 1 then -n else n, t2) from by rw [HNN.out, HEQ.out])
            have hn1 : 1 ≤ n := HQ2.out.2.1
            have hn2 : n < 65536 := Int.lt_of_lt_of_le HQ2.out.2.2 (Int.le_trans (pow2_le (by have := HQ2.out.1; omega)) (by decide))
            clear HNN HEQ HM2
            rcases hsg with hsg | hsg
            · subst hsg
              go_wp2
              go_ret
              exact ⟨by rw [HN5.out] <;> rfl, by rw [HN5.out]; exact D5.out, B5.out, K5.out⟩
            · subst hsg
              go_wp2
              go_ret
              exact ⟨by rw [HN5.out] <;> rfl, by rw [HN5.out]; exact D5.out, B5.out, K5.out⟩
      · obtain ⟨e, rfl⟩ : ∃ e, d = e + 1 := ⟨d - 1, by omega⟩
        have hcl : (CN : Int) < 15 := by have := HCN.out; have := HQ.out.2; omega
        have HX := Aside0.mk (show clsD bs base 14 s2 = if bitD t (base + 1 + (CN : Int)) = 1 then clsD bs base e (stepD bs t (base + 1 + (CN : Int))) else (CN, stepD bs t (base + 1 + (CN : Int))) from by rw [← HC.out, show CN = 14 - e from by have := HCN.out; omega]; rfl)
        have HV := Aside0.mk (show (((15 - e : Nat) : Nat) : Int) = (CN : Int) + 1 from by have := HCN.out; have := HQ.out.2; omega)
        have hT := (stepD_at bs t (base + 1 + (CN : Int))).2
        have HS4 := Aside0.mk (show DecOk (stepD bs t (base + 1 + (CN : Int))) from stepD_ok HBS.out HT.out.1 (by omega) (by omega))
        have HT4 := Aside0.mk (show (stepD bs t (base + 1 + (CN : Int))).at_ + e ≤ 900000020 from by have := HT.out.2; omega)
        clear hT hd HC HCN
        by_cases hbit : bitD t (base + 1 + (CN : Int)) = 1
        · have HX1 := Aside0.mk (show clsD bs base e (stepD bs t (base + 1 + (CN : Int))) = clsD bs base 14 s2 from by rw [HX.out, if_pos hbit])
          clear HX
          go_wp2_with (go_at_call 73; (with_reducible refine (iBit_x r p bs t (base + 1 + (CN : Int)) w0 _ D3.out HT.out.1 (by omega) (by omega) B3.out HBS.out (by have := HT.out.2; omega)).mono ?_); rintro e W4 ⟨rfl, d, b, k⟩; rw [hbit]; have D4 := Aside0.mk d; have B4 := Aside0.mk b; have K4 := Aside0.mk (KeepBut.trans K3.out k (.inl rfl)); clear d b k)
          go_roundg e
          case measure => have := HQ.out.1; omega
          case rel => exact ⟨e, _, by rw [HV.out], ⟨rfl, by have := HQ.out.2; omega⟩, ⟨HS4.out, HT4.out⟩, HX1, D4, B4, K4⟩
        · have HM := Aside0.mk (show clsD bs base 14 s2 = (CN, stepD bs t (base + 1 + (CN : Int))) from by rw [HX.out, if_neg hbit])
          have hbit0 := (bit01 t (base + 1 + (CN : Int))).resolve_right hbit
          clear hbit HX HV
          go_wp2_with (go_at_call 73; (with_reducible refine (iBit_x r p bs t (base + 1 + (CN : Int)) w0 _ D3.out HT.out.1 (by omega) (by omega) B3.out HBS.out (by have := HT.out.2; omega)).mono ?_); rintro e W4 ⟨rfl, d, b, k⟩; rw [hbit0]; have D4 := Aside0.mk d; have B4 := Aside0.mk b; have K4 := Aside0.mk (KeepBut.trans K3.out k (.inl rfl)); clear d b k)
          have HT' := Aside0.mk (show DecOk (stepD bs t (base + 1 + (CN : Int))) ∧ (stepD bs t (base + 1 + (CN : Int))).at_ ≤ 900000020 from ⟨HS4.out, by have := HT4.out; omega⟩)
          obtain ⟨tc, HTC⟩ : ∃ tc, Aside0 (tc = stepD bs t (base + 1 + (CN : Int))) := ⟨_, ⟨rfl⟩⟩
          rw [← HTC.out] at HM D4 HT'
          clear HTC HS4 HT4 HT D3 B3 K3 HQ hbit0
          have HNN := Aside0.mk (show numD bs base s = (if sg = 1 then -(magD bs (base + 18) (CN - 1) 1 tc).1 else (magD bs (base + 18) (CN - 1) 1 tc).1, (magD bs (base + 18) (CN - 1) 1 tc).2) from by rw [HN.out, HM.out])
          clear HN HM
          go_loopg [7, 31] (CN - 1) (fun kq vn vi w' => ∃ (i : Nat) (n : Int) (t2 : Dec), vn = .int .i64 n ∧ vi = .int .i64 (i : Int) ∧ Aside0 (i + kq = CN - 1 ∧ 1 ≤ n ∧ n < 2 ^ (i + 1)) ∧ Aside0 (DecOk t2 ∧ t2.at_ ≤ 900000020 + i) ∧ Aside0 (magD bs (base + 18) (CN - 1 - i) n t2 = magD bs (base + 18) (CN - 1) 1 tc) ∧ Aside0 (DecAt w0 w' r p bs t2) ∧ Aside0 (Below w0.heap.size w0 w') ∧ Aside0 (KeepBut W w' r (some p)))
          case atStart => exact ⟨0, 1, tc, rfl, rfl, ⟨by omega, by decide, by decide⟩, ⟨HT'.out.1, HT'.out.2⟩, ⟨rfl⟩, D4, B4, K4⟩
          case round =>
            clear D4 B4 K4 HT'
            obtain ⟨i, n, t2, rfl, rfl, HQ2, HT2, HM2, D5, B5, K5⟩ := hrel
            by_cases hi : (i : Int) < (CN : Int) - 1
            · have hn1 : 1 ≤ n := HQ2.out.2.1
              have hn2 : n < 32768 := Int.lt_of_lt_of_le HQ2.out.2.2 (pow2_le (by omega))
              obtain ⟨y, HY⟩ : ∃ y, Aside0 (y = bitD t2 (base + 18)) := ⟨_, ⟨rfl⟩⟩
              have hy : y = 0 ∨ y = 1 := by rw [HY.out]; exact bit01 _ _
              have hy0 : 0 ≤ y := by omega
              have hy1 : y ≤ 1 := by omega
              have HM3 := Aside0.mk (show magD bs (base + 18) (CN - 1 - (i + 1)) (2 * n + y) (stepD bs t2 (base + 18)) = magD bs (base + 18) (CN - 1) 1 tc from by rw [← HM2.out, HY.out, show CN - 1 - i = (CN - 1 - (i + 1)) + 1 from by omega]; rfl)
              have HS6 := Aside0.mk (show DecOk (stepD bs t2 (base + 18)) from stepD_ok HBS.out HT2.out.1 (by omega) (by omega))
              have HT6 := Aside0.mk (show (stepD bs t2 (base + 18)).at_ ≤ 900000020 + (i + 1) from by have := (stepD_at bs t2 (base + 18)).2; have := HT2.out.2; omega)
              have HP := Aside0.mk (pow2_step i)
              clear hy HM2
              go_wp2_with (go_at_call 73; (with_reducible refine (iBit_x r p bs t2 (base + 18) w0 _ D5.out HT2.out.1 (by omega) (by omega) B5.out HBS.out (by have := HT2.out.2; omega)).mono ?_); rintro e W6 ⟨rfl, d, b, k⟩; rw [← HY.out]; have D6 := Aside0.mk d; have B6 := Aside0.mk b; have K6 := Aside0.mk (KeepBut.trans K5.out k (.inl rfl)); clear d b k)
              go_roundg (CN - 1 - (i + 1))
              case measure => have := HQ2.out.1; omega
              case rel => exact ⟨i + 1, 2 * n + y, _, rfl, by first | rfl | go_num | simp, ⟨by have := HQ2.out.1; omega, by omega, by rw [HP.out]; have := HQ2.out.2.2; omega⟩, ⟨HS6.out, HT6.out⟩, HM3, D6, B6, K6⟩
            · have HEQ := Aside0.mk (show magD bs (base + 18) (CN - 1) 1 tc = (n, t2) from by rw [← HM2.out, show CN - 1 - i = 0 from by have := HQ2.out.1; omega]; rfl)
              have HN5 := Aside0.mk (show numD bs base s = (if sg = 1 then -n else n, t2) from by rw [HNN.out, HEQ.out])
              have hn1 : 1 ≤ n := HQ2.out.2.1
              have hn2 : n < 65536 := Int.lt_of_lt_of_le HQ2.out.2.2 (Int.le_trans (pow2_le (by have := HQ2.out.1; omega)) (by decide))
              clear HNN HEQ HM2
              rcases hsg with hsg | hsg
              · subst hsg
                go_wp2
                go_ret
                exact ⟨by rw [HN5.out] <;> rfl, by rw [HN5.out]; exact D5.out, B5.out, K5.out⟩
              · subst hsg
                go_wp2
                go_ret
                exact ⟨by rw [HN5.out] <;> rfl, by rw [HN5.out]; exact D5.out, B5.out, K5.out⟩

end Go.Proofs.Ytdeheflbigggbaa.CM
