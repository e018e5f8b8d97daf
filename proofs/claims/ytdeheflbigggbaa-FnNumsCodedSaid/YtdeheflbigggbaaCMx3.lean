/- Functions that a law of this seat reaches: written by a program of this session (wip/xprint.py), and by hand. -/
import Derived.Test.YtdeheflbigggbaaCMx0
import Derived.Test.YtdeheflbigggbaaCMx2
namespace Go.Proofs.Ytdeheflbigggbaa.CM
open Go.RowKit Go.Proofs.Ytdeheflbigggbaa.B Go.Proofs.YtdeheflbigggbaaW.PrintWords Go.Proofs.YtdeheflbigggbaaW.PrintLast Go.Proofs.YtdeheflbigggbaaW.PrintMore
attribute [local go_sem] max2_int min2_int max_two min_two max_three min_three max_four min_four   -- for this text's walks alone
set_option linter.unusedVariables false
set_option linter.unusedSimpArgs false

theorem bitLen_eq (x : Nat) : Lib.bitLen x = bitN 64 x := by
  have h : ∀ f x, Lib.bitLenAux f x = bitN f x := by
    intro f
    induction f with
    | zero => intro x; rfl
    | succ f ih => intro x; unfold Lib.bitLenAux bitN; rw [ih]
  exact h 64 x
theorem mxAbs {n : Int} (h0 : -32767 ≤ n) (h1 : n ≤ 32767) : mx n (wrap64 (-n)) = ((n.natAbs : Nat) : Int) := by
  rw [w64 (by omega) (by omega)]
  unfold mx
  split <;> omega
theorem iClassOf_f (n : Int) : impl_ClassOf.f n = some (clsI n) := by
  unfold impl_ClassOf.f
  rw [isCoef_f]
  simp only [Option.bind_some]
  by_cases h : coefB n = true
  · have hr := inR_iff.1 h
    rw [if_pos h, mxAbs hr.1 hr.2, show IntKind.u64.wrap ((n.natAbs : Nat) : Int) = ((n.natAbs : Nat) : Int) from by simp only [IntKind.wrap, IntKind.signed, IntKind.bits]; simp; omega]
    unfold bits_Len.f
    rw [if_pos (by omega), if_pos (by omega), Int.toNat_natCast, bitLen_eq]
    unfold clsI
    rw [if_pos h]
    rfl
  · rw [if_neg h]
    unfold clsI
    rw [if_neg h]

/-! ### impl_binsOf: function 62 -/
mutual
def impl_binsOf.j0 : Nat → Int → Int → Int → Int → Option ((List (S31)))
  | 0, _, _, _, _ => none
  | k + 1, x1, x5, x6, x7 => impl_binsOf.l0 k x1 x6 x7 (([(⟨x1, 0⟩ : S31), (⟨wrap64 (x1 + 1), x5⟩ : S31)] : List (S31))) (wrap64 (x6 - 1)) 0
def impl_binsOf.l0 : Nat → Int → Int → Int → List (S31) → Int → Int → Option ((List (S31)))
  | 0, _, _, _, _, _, _ => none
  | k + 1, x1, x6, x7, x8, x32, x33 => if x33 < x32 then (if x8.length < 8796093022208 then (impl_binsOf.l0 k x1 x6 x7 (x8 ++ [(⟨wrap64 ((wrap64 (x1 + 2)) + x33), 1⟩ : S31)]) x32 (wrap64 (x33 + 1))) else (none)) else (if x6 < 15 then (if x8.length < 8796093022208 then (impl_binsOf.j2 k x1 x6 x7 (x8 ++ [(⟨wrap64 ((wrap64 (x1 + 1)) + x6), 0⟩ : S31)])) else (none)) else (impl_binsOf.j2 k x1 x6 x7 x8))
def impl_binsOf.j2 : Nat → Int → Int → Int → List (S31) → Option ((List (S31)))
  | 0, _, _, _, _ => none
  | k + 1, x1, x6, x7, x8 => impl_binsOf.l1 k x1 x7 x8 (wrap64 (x6 - 2))
def impl_binsOf.l1 : Nat → Int → Int → List (S31) → Int → Option ((List (S31)))
  | 0, _, _, _, _ => none
  | k + 1, x1, x7, x8, x10 => if x10 ≥ 0 then (if 0 ≤ x10 then (if x8.length < 8796093022208 then (impl_binsOf.l1 k x1 x7 (x8 ++ [(⟨wrap64 (x1 + 18), Go.bits .and .i64 (shr .i64 x7 x10) 1⟩ : S31)]) (wrap64 (x10 - 1))) else (none)) else (none)) else (some x8)
end
def impl_binsOf.f (k : Nat) (a0 : Int) (a1 : Int) : Option ((List (S31))) := if a0 = 0 then (some (([(⟨a1, 1⟩ : S31)] : List (S31)))) else ((impl_ClassOf.f a0).bind fun t127 => (if a0 < 0 then (impl_binsOf.j0 k a1 1 t127 (mx a0 (wrap64 (-a0)))) else (impl_binsOf.j0 k a1 0 t127 (mx a0 (wrap64 (-a0))))))
theorem impl_binsOf.mono_l : ∀ k, (∀ y0 y1 y2 y3, LeO (impl_binsOf.j0 k y0 y1 y2 y3) (impl_binsOf.j0 (k + 1) y0 y1 y2 y3)) ∧ (∀ y0 y1 y2 y3 y4 y5, LeO (impl_binsOf.l0 k y0 y1 y2 y3 y4 y5) (impl_binsOf.l0 (k + 1) y0 y1 y2 y3 y4 y5)) ∧ (∀ y0 y1 y2 y3, LeO (impl_binsOf.j2 k y0 y1 y2 y3) (impl_binsOf.j2 (k + 1) y0 y1 y2 y3)) ∧ (∀ y0 y1 y2 y3, LeO (impl_binsOf.l1 k y0 y1 y2 y3) (impl_binsOf.l1 (k + 1) y0 y1 y2 y3))
  | 0 => ⟨fun _ _ _ _ r h => by simp [impl_binsOf.j0] at h, fun _ _ _ _ _ _ r h => by simp [impl_binsOf.l0] at h, fun _ _ _ _ r h => by simp [impl_binsOf.j2] at h, fun _ _ _ _ r h => by simp [impl_binsOf.l1] at h⟩
  | k + 1 => by
    obtain ⟨ih0, ih1, ih2, ih3⟩ := impl_binsOf.mono_l k
    refine ⟨?_, ?_, ?_, ?_⟩
    · intro y0 y1 y2 y3
      unfold impl_binsOf.j0
      repeat' first
      | (with_reducible exact ih0 _ _ _ _)
      | (with_reducible exact ih1 _ _ _ _ _ _)
      | (with_reducible exact ih2 _ _ _ _)
      | (with_reducible exact ih3 _ _ _ _)
      | (with_reducible exact LeO.refl _)
      | (with_reducible exact LeO.none _)
      | (with_reducible refine LeO.ite ?_ ?_)
      | (with_reducible refine LeO.bind ?_ (fun _ => ?_))
      | exact ih0 _ _ _ _
      | exact ih1 _ _ _ _ _ _
      | exact ih2 _ _ _ _
      | exact ih3 _ _ _ _
      | exact LeO.none _
      | refine LeO.ite ?_ ?_
      | refine LeO.bind ?_ (fun _ => ?_)
    · intro y0 y1 y2 y3 y4 y5
      unfold impl_binsOf.l0
      repeat' first
      | (with_reducible exact ih0 _ _ _ _)
      | (with_reducible exact ih1 _ _ _ _ _ _)
      | (with_reducible exact ih2 _ _ _ _)
      | (with_reducible exact ih3 _ _ _ _)
      | (with_reducible exact LeO.refl _)
      | (with_reducible exact LeO.none _)
      | (with_reducible refine LeO.ite ?_ ?_)
      | (with_reducible refine LeO.bind ?_ (fun _ => ?_))
      | exact ih0 _ _ _ _
      | exact ih1 _ _ _ _ _ _
      | exact ih2 _ _ _ _
      | exact ih3 _ _ _ _
      | exact LeO.none _
      | refine LeO.ite ?_ ?_
      | refine LeO.bind ?_ (fun _ => ?_)
    · intro y0 y1 y2 y3
      unfold impl_binsOf.j2
      repeat' first
      | (with_reducible exact ih0 _ _ _ _)
      | (with_reducible exact ih1 _ _ _ _ _ _)
      | (with_reducible exact ih2 _ _ _ _)
      | (with_reducible exact ih3 _ _ _ _)
      | (with_reducible exact LeO.refl _)
      | (with_reducible exact LeO.none _)
      | (with_reducible refine LeO.ite ?_ ?_)
      | (with_reducible refine LeO.bind ?_ (fun _ => ?_))
      | exact ih0 _ _ _ _
      | exact ih1 _ _ _ _ _ _
      | exact ih2 _ _ _ _
      | exact ih3 _ _ _ _
      | exact LeO.none _
      | refine LeO.ite ?_ ?_
      | refine LeO.bind ?_ (fun _ => ?_)
    · intro y0 y1 y2 y3
      unfold impl_binsOf.l1
      repeat' first
      | (with_reducible exact ih0 _ _ _ _)
      | (with_reducible exact ih1 _ _ _ _ _ _)
      | (with_reducible exact ih2 _ _ _ _)
      | (with_reducible exact ih3 _ _ _ _)
      | (with_reducible exact LeO.refl _)
      | (with_reducible exact LeO.none _)
      | (with_reducible refine LeO.ite ?_ ?_)
      | (with_reducible refine LeO.bind ?_ (fun _ => ?_))
      | exact ih0 _ _ _ _
      | exact ih1 _ _ _ _ _ _
      | exact ih2 _ _ _ _
      | exact ih3 _ _ _ _
      | exact LeO.none _
      | refine LeO.ite ?_ ?_
      | refine LeO.bind ?_ (fun _ => ?_)
theorem impl_binsOf.mono : ∀ a0 a1 k, LeO (impl_binsOf.f k a0 a1) (impl_binsOf.f (k + 1) a0 a1) := by
  intro a0 a1 k
  obtain ⟨ih0, ih1, ih2, ih3⟩ := impl_binsOf.mono_l k
  unfold impl_binsOf.f
  repeat' first
      | (with_reducible exact ih0 _ _ _ _)
      | (with_reducible exact ih1 _ _ _ _ _ _)
      | (with_reducible exact ih2 _ _ _ _)
      | (with_reducible exact ih3 _ _ _ _)
      | (with_reducible exact LeO.refl _)
      | (with_reducible exact LeO.none _)
      | (with_reducible refine LeO.ite ?_ ?_)
      | (with_reducible refine LeO.bind ?_ (fun _ => ?_))
      | exact ih0 _ _ _ _
      | exact ih1 _ _ _ _ _ _
      | exact ih2 _ _ _ _
      | exact ih3 _ _ _ _
      | exact LeO.none _
      | refine LeO.ite ?_ ?_
      | refine LeO.bind ?_ (fun _ => ?_)
set_option maxHeartbeats 8000000 in
set_option maxRecDepth 100000 in
theorem impl_binsOf.calls (k : Nat) (a0 : Int) (a1 : Int) (r : List (S31)) (w : World) (h : impl_binsOf.f k a0 a1 = some r) :
    Calls Try.prog 62 #[.int .i64 a0, .int .i64 a1] w fun e w' => ∃ v0_ : Value, e = .returned (v0_) ∧ Kd.R k31 31 w' w.heap.size (fun _ => True) v0_ r ∧ Below w.heap.size w w' := by
  have hu31 := Try.underlying31
  have HB := Aside0.mk (Below.refl w.heap.size w)
  have H : (if a0 = 0 then (some (([(⟨a1, 1⟩ : S31)] : List (S31)))) else ((impl_ClassOf.f a0).bind fun t127 => (if a0 < 0 then (impl_binsOf.j0 k a1 1 t127 (mx a0 (wrap64 (-a0)))) else (impl_binsOf.j0 k a1 0 t127 (mx a0 (wrap64 (-a0))))))) = some r := h
  clear h
  by_cases c3 : a0 = 0
  · rw [if_pos c3] at H
    have c3b0 : (a0 == 0) = true := beq_iff_eq.mpr c3
    have c3b1 : (a0 != 0) = false := bne_eq_false_iff_eq.mpr c3
    clear c3
    obtain ⟨y124, hy124⟩ : ∃ y_ : List (S31), y_ = (([(⟨a1, 1⟩ : S31)] : List (S31))) := ⟨_, rfl⟩
    replace H : (some y124) = some r := by first | (rw [hy124]; with_reducible exact H) | (have H2_ := (Option.bind_some _ _).symm.trans H; rw [hy124]; with_reducible exact H2_) | (have H2_ := (Option.bind_some _ _).symm.trans H; with_reducible exact H2_) | with_reducible exact H | (rw [hy124]; exact H) | exact H
    have Ny124 := Aside0.mk hy124
    clear hy124
    obtain rfl := Option.some.inj H
    go_enter Try.func62, Try.ntmps62
    go_wp2_with (first | ((with_reducible refine gate_dst (N := 15) rfl ?_); refine Kd.R_lit k31 _ 31 ?hg (N := 15) ?hd (xs := ([(⟨a1, 1⟩ : S31)] : List (S31))) (inner := [.int .i64 a1, .int .i64 1]) (ok := fun _ => True) (okp := fun _ => True) ?hr ?hp (fun _ hk => hk) trivial (Below.refl _ _) (Nat.le_refl _) (by simp) ?_; (case hd => rfl); (case hg => rfl); (case hr => first | (go_simp; done) | (go_simp; rfl)); (case hp => exact (Reps.c2 (show Kd.M k31 _ _ _ (⟨a1, 1⟩ : S31) [.int .i64 a1, .int .i64 1] from (k31_mkM _ _ _ (⟨a1, 1⟩ : S31) )) (Reps.none _ _))); intro v125 w4 ho5 hb hg_ hnew_; clear hg_ hnew_; (first | rw [← Ny124.out] at ho5 | (simp only [Int.reduceToNat] at ho5; rw [← Ny124.out] at ho5)); have n0_ := Aside0.mk (Kd.R_lower ho5 (below_size (by repeat (first | (with_reducible first | exact HB.out | apply below_alloc | apply pw_below_drewN | apply below_drew1) | exact HB.out)))); have n1_ := Aside0.mk (below_step (by repeat (first | (with_reducible first | exact HB.out | apply below_alloc | apply pw_below_drewN | apply below_drew1) | exact HB.out)) hb); clear HB; have HO126 := n0_; have HB := n1_; clear n0_ n1_; clear hb ho5))
    go_ret
    exact ⟨_, by first | rfl | (simp [errW_none, errW_some] <;> rfl) | (simp [*, errW_none, errW_some] <;> rfl), by (with_reducible repeat (first | apply Kd.R_alloc | apply Kd.R_drewN | apply Kd.R_drew)); exact HO126.out, by repeat (first | (with_reducible first | exact HB.out | apply below_alloc | apply pw_below_drewN | apply below_drew1) | exact HB.out)⟩
  · rw [if_neg c3] at H
    have c3b0 : (a0 == 0) = false := beq_eq_false_iff_ne.mpr c3
    have c3b1 : (a0 != 0) = true := bne_iff_ne.mpr c3
    replace H := Option.bind_eq_some_iff.mp H
    obtain ⟨t127, A60, H⟩ := H
    replace H : (if a0 < 0 then (impl_binsOf.j0 k a1 1 t127 (mx a0 (wrap64 (-a0)))) else (impl_binsOf.j0 k a1 0 t127 (mx a0 (wrap64 (-a0))))) = some r := H
    have A6 := Aside0.mk A60
    clear A60
    obtain ⟨ji7, hji7⟩ : ∃ j_ : Int, (mx a0 (wrap64 (-a0))) = j_ := ⟨_, rfl⟩
    replace H : (if a0 < 0 then (impl_binsOf.j0 k a1 1 t127 ji7) else (impl_binsOf.j0 k a1 0 t127 ji7)) = some r := by first | (rw [hji7] at H; exact H) | (simp only [hji7] at H ⊢; exact H)
    (try rw [hji7] at A6)
    have hji7_ : (if a0 < (wrap64 (-a0)) then (wrap64 (-a0)) else a0) = ji7 := hji7
    have HC8 := Aside0.mk H
    clear H
    go_enter Try.func62, Try.ntmps62
    go_upto_if 23 with (first | ((with_reducible refine gate_callee (f := 97) rfl ?_); refine goesL_ (some 17) rfl rfl Try.func97 (by kernel_rfl) rfl #[.int .i64 a0] rfl (by (try simp only [List.map_toArray, List.map_cons, List.map_nil]); first | done | rfl | (simp only [List.length_drop, List.length_take]; rfl)) ?_; (with_reducible refine (impl_ClassOf.calls a0 t127 _ A6.out).mono ?_); rintro e w9 ⟨rfl, hb⟩; refine ⟨_, rfl, ?_⟩; have n0_ := Aside0.mk (below_step (by repeat (first | (with_reducible first | exact HB.out | apply below_alloc | apply pw_below_drewN | apply below_drew1) | exact HB.out)) hb); clear HB; have HB := n0_; clear n0_; (try clear hb); (try clear hb2); (try clear hk); (try clear hi)))
    (try simp only [Act.put, List.setIfInBounds_toArray, List.set_cons_zero, List.set_cons_succ])
    go_cut [5] (fun v5 wc => ∃ (kq : Nat) (x5_7 : Int), v5 = .int .i64 x5_7 ∧ Aside0 (impl_binsOf.j0 kq a1 x5_7 t127 ji7 = some r) ∧ Aside0 (kq ≤ k) ∧ Aside0 (Below w.heap.size w wc))
    case first =>
      have H := HC8.out
      clear HC8
      by_cases c10 : a0 < 0
      · rw [if_pos c10] at H
        have c10b0 : decide (a0 < 0) = true := decide_eq_true c10
        clear c10
        (first | rw [c10b0] | (simp only [i64_w, i32_w]; rw [c10b0]) | skip)
        have H' := Aside0.mk H
        clear H
        go_wp2
        go_meet
        case rel => exact ⟨_, (1), (by first | rfl | (simp; done) | (simp [*]; done)), H', ⟨by first | omega | exact Nat.le_refl _⟩, ⟨by repeat (first | (with_reducible first | exact HB.out | apply below_alloc | apply pw_below_drewN | apply below_drew1) | exact HB.out)⟩⟩
      · rw [if_neg c10] at H
        have c10b0 : decide (a0 < 0) = false := decide_eq_false c10
        clear c10
        (first | rw [c10b0] | (simp only [i64_w, i32_w]; rw [c10b0]) | skip)
        have H' := Aside0.mk H
        clear H
        go_wp2
        go_meet
        case rel => exact ⟨_, (0), (by first | rfl | (simp; done) | (simp [*]; done)), H', ⟨by first | omega | exact Nat.le_refl _⟩, ⟨by repeat (first | (with_reducible first | exact HB.out | apply below_alloc | apply pw_below_drewN | apply below_drew1) | exact HB.out)⟩⟩
    case rest =>
      clear HC8
      try clear c1
      try clear c2
      try clear p2
      try clear c3
      try clear c3b0
      try clear c3b1
      try clear c6
      try clear p6
      try clear c9
      try clear c10
      try clear c10b0
      obtain ⟨kq, x5_7, rfl, HA, HJ7, HB⟩ := hcut
      cases kq with
      | zero => exact absurd HA.out (by simp [impl_binsOf.j0])
      | succ kj7 =>
        have H := HA.out
        clear HA
        simp only [impl_binsOf.j0] at H
        obtain ⟨y128, hy128⟩ : ∃ y_ : List (S31), y_ = (([(⟨a1, 0⟩ : S31), (⟨wrap64 (a1 + 1), x5_7⟩ : S31)] : List (S31))) := ⟨_, rfl⟩
        replace H : (impl_binsOf.l0 kj7 a1 t127 ji7 y128 (wrap64 (t127 - 1)) 0) = some r := by first | (rw [hy128]; with_reducible exact H) | (have H2_ := (Option.bind_some _ _).symm.trans H; rw [hy128]; with_reducible exact H2_) | (have H2_ := (Option.bind_some _ _).symm.trans H; with_reducible exact H2_) | with_reducible exact H | (rw [hy128]; exact H) | exact H
        have Ny128 := Aside0.mk hy128
        clear hy128
        have H' := Aside0.mk H
        clear H
        go_wp2_with (first | ((with_reducible refine gate_dst (N := 30) rfl ?_); refine Kd.R_lit k31 _ 31 ?hg (N := 30) ?hd (xs := ([(⟨a1, 0⟩ : S31), (⟨wrap64 (a1 + 1), x5_7⟩ : S31)] : List (S31))) (inner := [.int .i64 a1, .int .i64 0, .int .i64 (wrap64 (a1 + 1)), .int .i64 x5_7]) (ok := fun _ => True) (okp := fun _ => True) ?hr ?hp (fun _ hk => hk) trivial (Below.refl _ _) (Nat.le_refl _) (by simp) ?_; (case hd => rfl); (case hg => rfl); (case hr => first | (go_simp; done) | (go_simp; rfl)); (case hp => exact (Reps.c2 (show Kd.M k31 _ _ _ (⟨a1, 0⟩ : S31) [.int .i64 a1, .int .i64 0] from (k31_mkM _ _ _ (⟨a1, 0⟩ : S31) )) (Reps.c2 (show Kd.M k31 _ _ _ (⟨wrap64 (a1 + 1), x5_7⟩ : S31) [.int .i64 (wrap64 (a1 + 1)), .int .i64 x5_7] from (k31_mkM _ _ _ (⟨wrap64 (a1 + 1), x5_7⟩ : S31) )) (Reps.none _ _)))); intro v129 w11 ho12 hb hg_ hnew_; clear hg_ hnew_; (first | rw [← Ny128.out] at ho12 | (simp only [Int.reduceToNat] at ho12; rw [← Ny128.out] at ho12)); have n0_ := Aside0.mk (Kd.R_lower ho12 (below_size (by repeat (first | (with_reducible first | exact HB.out | apply below_alloc | apply pw_below_drewN | apply below_drew1) | exact HB.out)))); have n1_ := Aside0.mk (below_step (by repeat (first | (with_reducible first | exact HB.out | apply below_alloc | apply pw_below_drewN | apply below_drew1) | exact HB.out)) hb); clear HB; have HO130 := n0_; have HB := n1_; clear n0_ n1_; clear hb ho12))
        go_loopg [8, 33] kj7 (fun kq v8 v33 w' => ∃ (x8_2 : List (S31)) (x33_2 : Int), v33 = .int .i64 x33_2 ∧ Aside0 (impl_binsOf.l0 kq a1 t127 ji7 x8_2 (wrap64 (t127 - 1)) x33_2 = some r) ∧ Aside0 (kq ≤ kj7) ∧ Aside0 (Kd.R k31 31 w' w.heap.size (fun _ => True) v8 x8_2) ∧ Aside0 (Below w.heap.size w w'))
        case atStart => exact ⟨(y128), (0), (by first | rfl | (simp; done) | (simp [*]; done)), H', ⟨Nat.le_refl _⟩, ⟨by (with_reducible repeat (first | apply Kd.R_alloc | apply Kd.R_drewN | apply Kd.R_drew)); exact HO130.out⟩, ⟨by repeat (first | (with_reducible first | exact HB.out | apply below_alloc | apply pw_below_drewN | apply below_drew1) | exact HB.out)⟩⟩
        case round =>
          clear H'
          try clear c1
          try clear c2
          try clear p2
          try clear c3
          try clear c3b0
          try clear c3b1
          try clear c6
          try clear p6
          try clear c9
          try clear c10
          try clear c10b0
          try clear p2
          try clear p6
          obtain ⟨x8_2, x33_2, rfl, HA, HK2, HO_8, HB⟩ := hrel
          cases gk with
          | zero => exact absurd HA.out (by simp [impl_binsOf.l0])
          | succ k2 =>
            have H := HA.out
            clear HA
            simp only [impl_binsOf.l0] at H
            by_cases c13 : x33_2 < (wrap64 (t127 - 1))
            · rw [if_pos c13] at H
              have c13b0 : decide (x33_2 < (wrap64 (t127 - 1))) = true := decide_eq_true c13
              clear c13
              by_cases c14 : x8_2.length < 8796093022208
              · rw [if_pos c14] at H
                have LMc14 := Aside0.mk c14
                clear c14
                obtain ⟨y131, hy131⟩ : ∃ y_ : List (S31), y_ = (x8_2 ++ [(⟨wrap64 ((wrap64 (a1 + 2)) + x33_2), 1⟩ : S31)]) := ⟨_, rfl⟩
                replace H : (impl_binsOf.l0 k2 a1 t127 ji7 y131 (wrap64 (t127 - 1)) (wrap64 (x33_2 + 1))) = some r := by first | (rw [hy131]; with_reducible exact H) | (have H2_ := (Option.bind_some _ _).symm.trans H; rw [hy131]; with_reducible exact H2_) | (have H2_ := (Option.bind_some _ _).symm.trans H; with_reducible exact H2_) | with_reducible exact H | (rw [hy131]; exact H) | exact H
                have Ny131 := Aside0.mk hy131
                clear hy131
                have H' := Aside0.mk H
                clear H
                go_wp2_with (first | ((with_reducible refine gate_builtin (b := .append) (xs := #[.tmp 36, .tmp 42]) rfl ?_); at_builtin; refine Kd.R_append k31 (w0 := w) w.heap.size rfl (.tmp 36) (.tmp 42) 22 31 (.agg #[(.int .i64 0), (.int .i64 0)]) 16 rfl Try.underlying22 info31 rfl (by decide) (by omega) u8 x8_2 (⟨wrap64 ((wrap64 (a1 + 2)) + x33_2), 1⟩ : S31) [.int .i64 (wrap64 ((wrap64 (a1 + 2)) + x33_2)), .int .i64 1] (fun _ => True) (fun _ => False) rfl rfl ?aP (fun _ hk => hk.elim) ?aF ?aO ?aB ?aS ?aL ?_; (case aP => exact k31_mkM _ _ _ (⟨wrap64 ((wrap64 (a1 + 2)) + x33_2), 1⟩ : S31)); (case aB => exact (by repeat (first | (with_reducible first | exact HB.out | apply below_alloc | apply pw_below_drewN | apply below_drew1) | exact HB.out))); (case aF => exact (fun _ _ => trivial)); (case aO => exact (by (with_reducible repeat (first | apply Kd.R_alloc | apply Kd.R_drewN | apply Kd.R_drew)); exact HO_8.out)); (case aS => exact (below_size (by repeat (first | (with_reducible first | exact HB.out | apply below_alloc | apply pw_below_drewN | apply below_drew1) | exact HB.out)))); (case aL => have := LMc14.out; omega); intro v132 w15 ho hb hg hat; rw [← Ny131.out] at ho; have n0_ := Aside0.mk (hb); have n1_ := Aside0.mk (ho); clear HB; clear HO_8; have HB := n0_; have HO133 := n1_; clear n0_ n1_; clear ho hb hg hat))
                go_roundg k2
                case measure => have := HJ7.out; have := HK2.out; omega
                case rel => exact ⟨(y131), (wrap64 (x33_2 + 1)), (by first | rfl | (simp; done) | (simp [*]; done)), H', ⟨by have := HJ7.out; have := HK2.out; omega⟩, ⟨by (with_reducible repeat (first | apply Kd.R_alloc | apply Kd.R_drewN | apply Kd.R_drew)); exact HO133.out⟩, ⟨by repeat (first | (with_reducible first | exact HB.out | apply below_alloc | apply pw_below_drewN | apply below_drew1) | exact HB.out)⟩⟩
              · rw [if_neg c14] at H
                exact absurd H (by simp)
            · rw [if_neg c13] at H
              have c13b0 : decide (x33_2 < (wrap64 (t127 - 1))) = false := decide_eq_false c13
              clear c13
              have HC16 := Aside0.mk H
              clear H
              go_upto_if 46 with (fail)
              go_cut [8] (fun v8 wc => ∃ (kq : Nat) (x8_15 : List (S31)), Aside0 (impl_binsOf.j2 kq a1 t127 ji7 x8_15 = some r) ∧ Aside0 (kq ≤ k2) ∧ Aside0 (Kd.R k31 31 wc w.heap.size (fun _ => True) v8 x8_15) ∧ Aside0 (Below w.heap.size w wc))
              case first =>
                have H := HC16.out
                clear HC16
                by_cases c17 : t127 < 15
                · rw [if_pos c17] at H
                  have c17b0 : decide (t127 < 15) = true := decide_eq_true c17
                  clear c17
                  (first | rw [c17b0] | (simp only [i64_w, i32_w]; rw [c17b0]) | skip)
                  by_cases c18 : x8_2.length < 8796093022208
                  · rw [if_pos c18] at H
                    have LMc18 := Aside0.mk c18
                    clear c18
                    obtain ⟨y134, hy134⟩ : ∃ y_ : List (S31), y_ = (x8_2 ++ [(⟨wrap64 ((wrap64 (a1 + 1)) + t127), 0⟩ : S31)]) := ⟨_, rfl⟩
                    replace H : (impl_binsOf.j2 k2 a1 t127 ji7 y134) = some r := by first | (rw [hy134]; with_reducible exact H) | (have H2_ := (Option.bind_some _ _).symm.trans H; rw [hy134]; with_reducible exact H2_) | (have H2_ := (Option.bind_some _ _).symm.trans H; with_reducible exact H2_) | with_reducible exact H | (rw [hy134]; exact H) | exact H
                    have Ny134 := Aside0.mk hy134
                    clear hy134
                    have H' := Aside0.mk H
                    clear H
                    go_wp2_with (first | ((with_reducible refine gate_builtin (b := .append) (xs := #[.tmp 47, .tmp 53]) rfl ?_); at_builtin; refine Kd.R_append k31 (w0 := w) w.heap.size rfl (.tmp 47) (.tmp 53) 22 31 (.agg #[(.int .i64 0), (.int .i64 0)]) 16 rfl Try.underlying22 info31 rfl (by decide) (by omega) u8 x8_2 (⟨wrap64 ((wrap64 (a1 + 1)) + t127), 0⟩ : S31) [.int .i64 (wrap64 ((wrap64 (a1 + 1)) + t127)), .int .i64 0] (fun _ => True) (fun _ => False) rfl rfl ?aP (fun _ hk => hk.elim) ?aF ?aO ?aB ?aS ?aL ?_; (case aP => exact k31_mkM _ _ _ (⟨wrap64 ((wrap64 (a1 + 1)) + t127), 0⟩ : S31)); (case aB => exact (by repeat (first | (with_reducible first | exact HB.out | apply below_alloc | apply pw_below_drewN | apply below_drew1) | exact HB.out))); (case aF => exact (fun _ _ => trivial)); (case aO => exact (by (with_reducible repeat (first | apply Kd.R_alloc | apply Kd.R_drewN | apply Kd.R_drew)); exact HO_8.out)); (case aS => exact (below_size (by repeat (first | (with_reducible first | exact HB.out | apply below_alloc | apply pw_below_drewN | apply below_drew1) | exact HB.out)))); (case aL => have := LMc18.out; omega); intro v135 w19 ho hb hg hat; rw [← Ny134.out] at ho; have n0_ := Aside0.mk (hb); have n1_ := Aside0.mk (ho); clear HB; clear HO_8; have HB := n0_; have HO136 := n1_; clear n0_ n1_; clear ho hb hg hat))
                    go_meet
                    case rel => exact ⟨_, (y134), H', ⟨by have := HJ7.out; have := HK2.out; first | omega | exact Nat.le_refl _⟩, ⟨by (with_reducible repeat (first | apply Kd.R_alloc | apply Kd.R_drewN | apply Kd.R_drew)); exact HO136.out⟩, ⟨by repeat (first | (with_reducible first | exact HB.out | apply below_alloc | apply pw_below_drewN | apply below_drew1) | exact HB.out)⟩⟩
                  · rw [if_neg c18] at H
                    exact absurd H (by simp)
                · rw [if_neg c17] at H
                  have c17b0 : decide (t127 < 15) = false := decide_eq_false c17
                  clear c17
                  (first | rw [c17b0] | (simp only [i64_w, i32_w]; rw [c17b0]) | skip)
                  have H' := Aside0.mk H
                  clear H
                  go_wp2
                  go_meet
                  case rel => exact ⟨_, (x8_2), H', ⟨by have := HJ7.out; have := HK2.out; first | omega | exact Nat.le_refl _⟩, ⟨by (with_reducible repeat (first | apply Kd.R_alloc | apply Kd.R_drewN | apply Kd.R_drew)); exact HO_8.out⟩, ⟨by repeat (first | (with_reducible first | exact HB.out | apply below_alloc | apply pw_below_drewN | apply below_drew1) | exact HB.out)⟩⟩
              case rest =>
                clear HC16
                try clear c1
                try clear c2
                try clear p2
                try clear c3
                try clear c3b0
                try clear c3b1
                try clear c6
                try clear p6
                try clear c9
                try clear c10
                try clear c10b0
                try clear c13
                try clear c13b0
                try clear c14
                try clear c17
                try clear c17b0
                try clear c18
                try clear p2
                try clear p6
                obtain ⟨kq, x8_15, HA, HJ15, HO_8, HB⟩ := hcut
                cases kq with
                | zero => exact absurd HA.out (by simp [impl_binsOf.j2])
                | succ kj15 =>
                  have H := HA.out
                  clear HA
                  simp only [impl_binsOf.j2] at H
                  have H' := Aside0.mk H
                  clear H
                  go_wp2
                  go_loopg [8, 10] kj15 (fun kq v8 v10 w' => ∃ (x8_4 : List (S31)) (x10_4 : Int), v10 = .int .i64 x10_4 ∧ Aside0 (impl_binsOf.l1 kq a1 ji7 x8_4 x10_4 = some r) ∧ Aside0 (kq ≤ kj15) ∧ Aside0 (Kd.R k31 31 w' w.heap.size (fun _ => True) v8 x8_4) ∧ Aside0 (Below w.heap.size w w'))
                  case atStart => exact ⟨(x8_15), (wrap64 (t127 - 2)), (by first | rfl | (simp; done) | (simp [*]; done)), H', ⟨Nat.le_refl _⟩, ⟨by (with_reducible repeat (first | apply Kd.R_alloc | apply Kd.R_drewN | apply Kd.R_drew)); exact HO_8.out⟩, ⟨by repeat (first | (with_reducible first | exact HB.out | apply below_alloc | apply pw_below_drewN | apply below_drew1) | exact HB.out)⟩⟩
                  case round =>
                    clear H'
                    try clear c1
                    try clear c2
                    try clear p2
                    try clear c3
                    try clear c3b0
                    try clear c3b1
                    try clear c6
                    try clear p6
                    try clear c9
                    try clear c10
                    try clear c10b0
                    try clear c13
                    try clear c13b0
                    try clear c14
                    try clear c17
                    try clear c17b0
                    try clear c18
                    try clear p2
                    try clear p6
                    obtain ⟨x8_4, x10_4, rfl, HA, HK4, HO_8, HB⟩ := hrel
                    cases gk with
                    | zero => exact absurd HA.out (by simp [impl_binsOf.l1])
                    | succ k4 =>
                      have H := HA.out
                      clear HA
                      simp only [impl_binsOf.l1] at H
                      by_cases c20 : x10_4 ≥ 0
                      · rw [if_pos c20] at H
                        have c20b0 : decide (0 ≤ x10_4) = true := decide_eq_true c20
                        clear c20
                        by_cases c21 : 0 ≤ x10_4
                        · rw [if_pos c21] at H
                          have c21b0 := eq_true c21
                          have c21b1 : decide (0 ≤ x10_4) = true := decide_eq_true c21
                          clear c21
                          obtain ⟨ji22, hji22⟩ : ∃ j_ : Int, (shr .i64 ji7 x10_4) = j_ := ⟨_, rfl⟩
                          replace H : (if x8_4.length < 8796093022208 then (impl_binsOf.l1 k4 a1 ji7 (x8_4 ++ [(⟨wrap64 (a1 + 18), Go.bits .and .i64 (ji22) 1⟩ : S31)]) (wrap64 (x10_4 - 1))) else (none)) = some r := by first | (rw [hji22] at H; exact H) | (simp only [hji22] at H ⊢; exact H)
                          have hji22_ : (ji7 / 2 ^ min x10_4.toNat 64) = ji22 := hji22
                          have hji22z : x10_4 ≤ 64 → (ji7 / 2 ^ x10_4.toNat) = ji22 := shr_small hji22
                          by_cases c23 : x8_4.length < 8796093022208
                          · rw [if_pos c23] at H
                            have LMc23 := Aside0.mk c23
                            clear c23
                            obtain ⟨y137, hy137⟩ : ∃ y_ : List (S31), y_ = (x8_4 ++ [(⟨wrap64 (a1 + 18), Go.bits .and .i64 (ji22) 1⟩ : S31)]) := ⟨_, rfl⟩
                            replace H : (impl_binsOf.l1 k4 a1 ji7 y137 (wrap64 (x10_4 - 1))) = some r := by first | (rw [hy137]; with_reducible exact H) | (have H2_ := (Option.bind_some _ _).symm.trans H; rw [hy137]; with_reducible exact H2_) | (have H2_ := (Option.bind_some _ _).symm.trans H; with_reducible exact H2_) | with_reducible exact H | (rw [hy137]; exact H) | exact H
                            have Ny137 := Aside0.mk hy137
                            clear hy137
                            have H' := Aside0.mk H
                            clear H
                            go_wp2_with (first | ((with_reducible refine gate_builtin (b := .append) (xs := #[.tmp 61, .tmp 69]) rfl ?_); at_builtin; refine Kd.R_append k31 (w0 := w) w.heap.size rfl (.tmp 61) (.tmp 69) 22 31 (.agg #[(.int .i64 0), (.int .i64 0)]) 16 rfl Try.underlying22 info31 rfl (by decide) (by omega) u8 x8_4 (⟨wrap64 (a1 + 18), Go.bits .and .i64 (ji22) 1⟩ : S31) [.int .i64 (wrap64 (a1 + 18)), .int .i64 (Go.bits .and .i64 (ji22) 1)] (fun _ => True) (fun _ => False) rfl rfl ?aP (fun _ hk => hk.elim) ?aF ?aO ?aB ?aS ?aL ?_; (case aP => exact k31_mkM _ _ _ (⟨wrap64 (a1 + 18), Go.bits .and .i64 (ji22) 1⟩ : S31)); (case aB => exact (by repeat (first | (with_reducible first | exact HB.out | apply below_alloc | apply pw_below_drewN | apply below_drew1) | exact HB.out))); (case aF => exact (fun _ _ => trivial)); (case aO => exact (by (with_reducible repeat (first | apply Kd.R_alloc | apply Kd.R_drewN | apply Kd.R_drew)); exact HO_8.out)); (case aS => exact (below_size (by repeat (first | (with_reducible first | exact HB.out | apply below_alloc | apply pw_below_drewN | apply below_drew1) | exact HB.out)))); (case aL => have := LMc23.out; omega); intro v138 w24 ho hb hg hat; rw [← Ny137.out] at ho; have n0_ := Aside0.mk (hb); have n1_ := Aside0.mk (ho); clear HB; clear HO_8; have HB := n0_; have HO139 := n1_; clear n0_ n1_; clear ho hb hg hat))
                            go_roundg k4
                            case measure => have := HJ7.out; have := HK2.out; have := HJ15.out; have := HK4.out; omega
                            case rel => exact ⟨(y137), (wrap64 (x10_4 - 1)), (by first | rfl | (simp; done) | (simp [*]; done)), H', ⟨by have := HJ7.out; have := HK2.out; have := HJ15.out; have := HK4.out; omega⟩, ⟨by (with_reducible repeat (first | apply Kd.R_alloc | apply Kd.R_drewN | apply Kd.R_drew)); exact HO139.out⟩, ⟨by repeat (first | (with_reducible first | exact HB.out | apply below_alloc | apply pw_below_drewN | apply below_drew1) | exact HB.out)⟩⟩
                          · rw [if_neg c23] at H
                            exact absurd H (by simp)
                        · rw [if_neg c21] at H
                          exact absurd H (by simp)
                      · rw [if_neg c20] at H
                        have c20b0 : decide (0 ≤ x10_4) = false := decide_eq_false c20
                        clear c20
                        obtain rfl := Option.some.inj H
                        go_wp2
                        go_ret
                        exact ⟨_, by first | rfl | (simp [errW_none, errW_some] <;> rfl) | (simp only [← hji7]; first | rfl | (simp [errW_none, errW_some] <;> rfl)) | (simp [*, errW_none, errW_some] <;> rfl), by (with_reducible repeat (first | apply Kd.R_alloc | apply Kd.R_drewN | apply Kd.R_drew)); exact HO_8.out, by repeat (first | (with_reducible first | exact HB.out | apply below_alloc | apply pw_below_drewN | apply below_drew1) | exact HB.out)⟩

theorem iDown (x base c : Int) (hb0 : 0 ≤ base) (hb1 : base ≤ 380) : ∀ (m : Nat) (out : List S31), m ≤ 100 → out.length ≤ 1000 - m →
    Ev (fun k => impl_binsOf.l1 k base x out ((m : Int) - 1)) (out ++ downL (base + 18) x m)
  | 0, out, _, _ => by
    refine Ev.step (fun k => by rw [impl_binsOf.l1]) (evNeg (by omega) (evCast (Ev.now _) ?_))
    simp [downL]
  | m + 1, out, hm, ho => by
    refine Ev.step (fun k => by rw [impl_binsOf.l1]) (evPos (by omega) (evPos (by omega) (evPos (by omega) ?_)))
    rw [w64 (x := base + 18) (by omega) (by omega), w64 (x := ((m + 1 : Nat) : Int) - 1 - 1) (by omega) (by omega), show ((m + 1 : Nat) : Int) - 1 = (m : Int) from by omega]
    refine evCast (iDown x base c hb0 hb1 m _ (by omega) (by rw [List.length_append, List.length_singleton]; omega)) ?_
    rw [List.append_assoc]
    rfl
theorem iOnes (x base : Int) (hb0 : 0 ≤ base) (hb1 : base ≤ 380) (c : Nat) (hc1 : 1 ≤ c) (hc : c ≤ 15) (out : List S31) (ho : out.length ≤ 100) (r : List S31)
    (hr : r = out ++ onesL (base + 2) (c - 1) ++ (if c < 15 then [⟨base + 1 + c, 0⟩] else []) ++ downL (base + 18) x (c - 1)) :
    ∀ (d i : Nat), i + d = c - 1 → Ev (fun k => impl_binsOf.l0 k base c x (out ++ onesL (base + 2) i) ((c - 1 : Nat) : Int) i) r := by
  have hlen : ∀ i, i ≤ 15 → (out ++ onesL (base + 2) i).length ≤ 200 := fun i hi => by rw [List.length_append, onesL_length]; omega
  have tail : ∀ out2 : List S31, out2.length ≤ 300 → Ev (fun k => impl_binsOf.j2 k base c x out2) (out2 ++ downL (base + 18) x (c - 1)) := by
    intro out2 h2
    refine Ev.step (fun k => by rw [impl_binsOf.j2]) ?_
    rw [w64 (by omega) (by omega), show (c : Int) - 2 = ((c - 1 : Nat) : Int) - 1 from by omega]
    exact iDown x base c hb0 hb1 (c - 1) out2 (by omega) (by omega)
  intro d
  induction d with
  | zero =>
    intro i hi
    have hl := hlen i (by omega)
    obtain rfl : i = c - 1 := by omega
    refine Ev.step (fun k => by rw [impl_binsOf.l0]) (evNeg (by omega) ?_)
    rw [w64 (x := base + 1) (by omega) (by omega), w64 (x := base + 1 + (c : Int)) (by omega) (by omega)]
    refine evIf (fun h15 => evPos (by omega) ?_) (fun h15 => ?_)
    · refine evCast (tail _ (by rw [List.length_append, List.length_singleton]; omega)) ?_
      rw [hr, if_pos (show c < 15 by omega)]
    · refine evCast (tail _ (by omega)) ?_
      rw [hr, if_neg (show ¬ c < 15 by omega), List.append_nil]
  | succ d ih =>
    intro i hi
    have hl := hlen i (by omega)
    refine Ev.step (fun k => by rw [impl_binsOf.l0]) (evPos (by omega) (evPos (by omega) ?_))
    rw [w64 (x := base + 2) (by omega) (by omega), w64 (x := base + 2 + (i : Int)) (by omega) (by omega), show (i : Int) + 1 = ((i + 1 : Nat) : Int) from by omega, w64n (n := i + 1) (by omega)]
    have := ih (i + 1) (by omega)
    rw [onesL_succ, ← List.append_assoc] at this
    exact this
theorem ibins_f {n base : Int} (hn : coefB n = true) (hb : inR base 0 380 = true) : Ev (fun k => impl_binsOf.f k n base) (binsN n base) := by
  have hr := inR_iff.1 hn
  have hbr := inR_iff.1 hb
  have hj : ∀ sg : Int, n ≠ 0 → sg = (if n < 0 then 1 else 0) → Ev (fun k => impl_binsOf.j0 k base sg (clsI n) (mx n (wrap64 (-n)))) (binsN n base) := by
    intro sg h0 hsg
    have hc := clsN_le hr.1 hr.2
    have hp := clsN_pos h0
    refine Ev.step (fun k => by rw [impl_binsOf.j0]) ?_
    have e : clsI n = (clsN n : Int) := by unfold clsI; rw [if_pos hn]
    rw [e, mxAbs hr.1 hr.2, w64 (x := base + 1) (by omega) (by omega), show (clsN n : Int) - 1 = ((clsN n - 1 : Nat) : Int) from by omega, w64n (by omega)]
    have := iOnes ((n.natAbs : Nat) : Int) base hbr.1 hbr.2 (clsN n) hp hc [⟨base, 0⟩, ⟨base + 1, sg⟩] (by simp) (binsN n base) (by unfold binsN; rw [if_neg h0, hsg]) (clsN n - 1) 0 (by omega)
    simpa [onesL] using this
  unfold impl_binsOf.f
  refine evIf (fun h0 => ?_) (fun h0 => ?_)
  · unfold binsN
    rw [if_pos h0]
    exact Ev.now _
  · refine evBind (evConst (iClassOf_f n)) (evIf (fun h1 => hj 1 h0 (by rw [if_pos h1])) (fun h1 => hj 0 h0 (by rw [if_neg h1])))

/-! ### impl_BinsOf: function 16 -/
def impl_BinsOf.f (k : Nat) (a0 : Int) (a1 : Int) : Option ((List (S31))) := (impl_isCoef.f a0).bind fun t140 => (if t140 = true then ((impl_isBase.f a1).bind fun t141 => (if t141 = true then ((impl_binsOf.f k a0 a1).bind fun t142 => (some t142)) else (some ([] : List (S31))))) else (some ([] : List (S31))))
theorem impl_BinsOf.mono : ∀ a0 a1 k, LeO (impl_BinsOf.f k a0 a1) (impl_BinsOf.f (k + 1) a0 a1) := by
  intro a0 a1 k
  unfold impl_BinsOf.f
  repeat' first
      | (with_reducible exact impl_binsOf.mono _ _ _)
      | (with_reducible exact LeO.refl _)
      | (with_reducible exact LeO.none _)
      | (with_reducible refine LeO.ite ?_ ?_)
      | (with_reducible refine LeO.bind ?_ (fun _ => ?_))
      | exact impl_binsOf.mono _ _ _
      | exact LeO.none _
      | refine LeO.ite ?_ ?_
      | refine LeO.bind ?_ (fun _ => ?_)
set_option maxHeartbeats 8000000 in
set_option maxRecDepth 100000 in
theorem impl_BinsOf.calls (k : Nat) (a0 : Int) (a1 : Int) (r : List (S31)) (w : World) (h : impl_BinsOf.f k a0 a1 = some r) :
    Calls Try.prog 16 #[.int .i64 a0, .int .i64 a1] w fun e w' => ∃ v0_ : Value, e = .returned (v0_) ∧ Kd.R k31 31 w' w.heap.size (fun _ => True) v0_ r ∧ Below w.heap.size w w' := by
  have HB := Aside0.mk (Below.refl w.heap.size w)
  have H : ((impl_isCoef.f a0).bind fun t140 => (if t140 = true then ((impl_isBase.f a1).bind fun t141 => (if t141 = true then ((impl_binsOf.f k a0 a1).bind fun t142 => (some t142)) else (some ([] : List (S31))))) else (some ([] : List (S31))))) = some r := h
  clear h
  replace H := Option.bind_eq_some_iff.mp H
  obtain ⟨t140, A30, H⟩ := H
  replace H : (if t140 = true then ((impl_isBase.f a1).bind fun t141 => (if t141 = true then ((impl_binsOf.f k a0 a1).bind fun t142 => (some t142)) else (some ([] : List (S31))))) else (some ([] : List (S31)))) = some r := H
  have A3 := Aside0.mk A30
  clear A30
  by_cases c4 : t140 = true
  · subst c4
    have H1 : ((impl_isBase.f a1).bind fun t141 => (if t141 = true then ((impl_binsOf.f k a0 a1).bind fun t142 => (some t142)) else (some ([] : List (S31))))) = some r := by rw [if_pos rfl] at H; exact H
    clear H
    have H := H1
    clear H1
    replace H := Option.bind_eq_some_iff.mp H
    obtain ⟨t141, A50, H⟩ := H
    replace H : (if t141 = true then ((impl_binsOf.f k a0 a1).bind fun t142 => (some t142)) else (some ([] : List (S31)))) = some r := H
    have A5 := Aside0.mk A50
    clear A50
    by_cases c6 : t141 = true
    · subst c6
      have H1 : ((impl_binsOf.f k a0 a1).bind fun t142 => (some t142)) = some r := by rw [if_pos rfl] at H; exact H
      clear H
      have H := H1
      clear H1
      replace H := Option.bind_eq_some_iff.mp H
      obtain ⟨t142, A70, H⟩ := H
      replace H : (some t142) = some r := H
      have A7 := Aside0.mk A70
      clear A70
      obtain rfl := Option.some.inj H
      go_enter Try.func16, Try.ntmps16
      go_wp2_with (first | ((with_reducible refine gate_callee (f := 60) rfl ?_); refine goesL_ (some 6) rfl rfl Try.func60 (by kernel_rfl) rfl #[.int .i64 a0] rfl (by (try simp only [List.map_toArray, List.map_cons, List.map_nil]); first | done | rfl | (simp only [List.length_drop, List.length_take]; rfl)) ?_; (with_reducible refine (impl_isCoef.calls a0 true _ A3.out).mono ?_); rintro e w' ⟨rfl, ⟨nd, rfl⟩⟩; refine ⟨_, rfl, ?_⟩) | (go_at_call 61; (with_reducible refine (impl_isBase.calls a1 true _ A5.out).mono ?_); rintro e w' ⟨rfl, ⟨nd, rfl⟩⟩) | ((with_reducible refine gate_callee (f := 62) rfl ?_); refine goesL_ (some 15) rfl rfl Try.func62 (by kernel_rfl) rfl #[.int .i64 a0, .int .i64 a1] rfl (by (try simp only [List.map_toArray, List.map_cons, List.map_nil]); first | done | rfl | (simp only [List.length_drop, List.length_take]; rfl)) ?_; (with_reducible refine (impl_binsOf.calls k a0 a1 t142 _ A7.out).mono ?_); rintro e w8 ⟨v143, rfl, ho0, hb⟩; refine ⟨_, rfl, ?_⟩; have n0_ := Aside0.mk (Kd.R_lower ho0 (below_size (by repeat (first | (with_reducible first | exact HB.out | apply below_alloc | apply pw_below_drewN | apply below_drew1) | exact HB.out)))); have n1_ := Aside0.mk (below_step (by repeat (first | (with_reducible first | exact HB.out | apply below_alloc | apply pw_below_drewN | apply below_drew1) | exact HB.out)) hb); clear HB; have HO144 := n0_; have HB := n1_; clear n0_ n1_; (try clear hb); (try clear hb2); (try clear hk); (try clear hi); (try clear ho0)))
      go_ret
      exact ⟨_, by first | rfl | (simp [errW_none, errW_some] <;> rfl) | (simp [*, errW_none, errW_some] <;> rfl), by (with_reducible repeat (first | apply Kd.R_alloc | apply Kd.R_drewN | apply Kd.R_drew)); exact HO144.out, by repeat (first | (with_reducible first | exact HB.out | apply below_alloc | apply pw_below_drewN | apply below_drew1) | exact HB.out)⟩
    · replace c6 := Bool.eq_false_iff.mpr c6
      subst c6
      have H1 : (some ([] : List (S31))) = some r := by rw [if_neg (show ¬ (false = true) by decide)] at H; exact H
      clear H
      have H := H1
      clear H1
      obtain rfl := Option.some.inj H
      go_enter Try.func16, Try.ntmps16
      go_wp2_with (first | ((with_reducible refine gate_callee (f := 60) rfl ?_); refine goesL_ (some 6) rfl rfl Try.func60 (by kernel_rfl) rfl #[.int .i64 a0] rfl (by (try simp only [List.map_toArray, List.map_cons, List.map_nil]); first | done | rfl | (simp only [List.length_drop, List.length_take]; rfl)) ?_; (with_reducible refine (impl_isCoef.calls a0 true _ A3.out).mono ?_); rintro e w' ⟨rfl, ⟨nd, rfl⟩⟩; refine ⟨_, rfl, ?_⟩) | (go_at_call 61; (with_reducible refine (impl_isBase.calls a1 false _ A5.out).mono ?_); rintro e w' ⟨rfl, ⟨nd, rfl⟩⟩))
      go_ret
      exact ⟨_, by first | rfl | (simp [errW_none, errW_some] <;> rfl) | (simp [*, errW_none, errW_some] <;> rfl), by first | exact Kd.R_nil _ _ _ _ _ | exact Kd.N_nil _ _ _ _ _ | exact Kd.V_nil _ _ _ _ _ | exact Kd.Q_nil _ _ _ _ _ | exact Kd.S_nil _ _ _ _ _, by repeat (first | (with_reducible first | exact HB.out | apply below_alloc | apply pw_below_drewN | apply below_drew1) | exact HB.out)⟩
  · replace c4 := Bool.eq_false_iff.mpr c4
    subst c4
    have H1 : (some ([] : List (S31))) = some r := by rw [if_neg (show ¬ (false = true) by decide)] at H; exact H
    clear H
    have H := H1
    clear H1
    obtain rfl := Option.some.inj H
    go_enter Try.func16, Try.ntmps16
    go_wp2_with (first | ((with_reducible refine gate_callee (f := 60) rfl ?_); refine goesL_ (some 6) rfl rfl Try.func60 (by kernel_rfl) rfl #[.int .i64 a0] rfl (by (try simp only [List.map_toArray, List.map_cons, List.map_nil]); first | done | rfl | (simp only [List.length_drop, List.length_take]; rfl)) ?_; (with_reducible refine (impl_isCoef.calls a0 false _ A3.out).mono ?_); rintro e w' ⟨rfl, ⟨nd, rfl⟩⟩; refine ⟨_, rfl, ?_⟩))
    go_ret
    exact ⟨_, by first | rfl | (simp [errW_none, errW_some] <;> rfl) | (simp [*, errW_none, errW_some] <;> rfl), by first | exact Kd.R_nil _ _ _ _ _ | exact Kd.N_nil _ _ _ _ _ | exact Kd.V_nil _ _ _ _ _ | exact Kd.Q_nil _ _ _ _ _ | exact Kd.S_nil _ _ _ _ _, by repeat (first | (with_reducible first | exact HB.out | apply below_alloc | apply pw_below_drewN | apply below_drew1) | exact HB.out)⟩

theorem iBinsOf_f (n base : Int) : Ev (fun k => impl_BinsOf.f k n base) (binsI n base) := by
  unfold impl_BinsOf.f binsI
  refine evBind (evConst (isCoef_f n)) (evIf (fun h => ?_) (fun h => ?_))
  · refine evBind (evConst (isBase_f base)) (evIf (fun hb => ?_) (fun hb => ?_))
    · rw [if_pos ⟨h, hb⟩]
      exact evBind (ibins_f h hb) (Ev.now _)
    · rw [if_neg (fun hh => hb hh.2)]
      exact Ev.now _
  · rw [if_neg (fun hh => h hh.1)]
    exact Ev.now _

/-! ### laws_big: function 20 -/
def laws_big.f (l0 : List Int) : Option (Bool) := some (decide ((l0.length : Int) > 1048576))
set_option maxHeartbeats 8000000 in
set_option maxRecDepth 100000 in
theorem laws_big.calls (A0 : Option Addr) (c0 : Nat) (l0 : List Int) (r : Bool) (w : World) (hr0 : Kd.C (Kd.int .u8) w A0 l0.length l0) (hc0 : l0.length ≤ c0) (h : laws_big.f l0 = some r) :
    Calls Try.prog 20 #[.slice A0 l0.length c0] w fun e w' => e = .returned (.bool r) ∧ Drawn0 w w' := by
  have HR0 := Aside0.mk hr0
  have HC0 := Aside0.mk hc0
  clear hr0 hc0
  have H : (some (decide ((l0.length : Int) > 1048576))) = some r := h
  clear h
  obtain rfl := Option.some.inj H
  go_enter Try.func20, Try.ntmps20
  go_wp2
  go_ret
  exact ⟨by first | rfl | (simp; done) | (simp [*]; done), by repeat (first | exact Drawn0.refl _ | apply Drawn0.step)⟩

theorem big_f (l : List Int) : laws_big.f l = some (decide ((l.length : Int) > 1048576)) := rfl

/-! ### impl_areBins: function 64 -/
def impl_areBins.l0 : Nat → List (S31) → List (S31) → Int → Int → Option (Bool)
  | 0, _, _, _, _ => none
  | k + 1, x0, x5, x6, x7 => if x7 < x6 then (if 0 ≤ x7 then (if x7 < (x5.length : Int) then ((impl_within.f ((rd_T31 x5 x7).f0) 0 399).bind fun t147 => (if t147 = true then ((impl_within.f ((rd_T31 x5 x7).f1) 0 1).bind fun t148 => (if t148 = true then (impl_areBins.l0 k x0 x5 x6 (wrap64 (x7 + 1))) else (some false))) else (some false))) else (none)) else (none)) else (some (decide ((x0.length : Int) ≤ 200000)))
def impl_areBins.f (k : Nat) (l0 : List (S31)) : Option (Bool) := impl_areBins.l0 k l0 l0 (l0.length : Int) 0
theorem impl_areBins.mono_l : ∀ k, (∀ y0 y1 y2 y3, LeO (impl_areBins.l0 k y0 y1 y2 y3) (impl_areBins.l0 (k + 1) y0 y1 y2 y3))
  | 0 => fun _ _ _ _ r h => by simp [impl_areBins.l0] at h
  | k + 1 => by
    have ih0 := impl_areBins.mono_l k
    · intro y0 y1 y2 y3
      unfold impl_areBins.l0
      repeat' first
      | (with_reducible exact ih0 _ _ _ _)
      | (with_reducible exact LeO.refl _)
      | (with_reducible exact LeO.none _)
      | (with_reducible refine LeO.ite ?_ ?_)
      | (with_reducible refine LeO.bind ?_ (fun _ => ?_))
      | exact ih0 _ _ _ _
      | exact LeO.none _
      | refine LeO.ite ?_ ?_
      | refine LeO.bind ?_ (fun _ => ?_)
theorem impl_areBins.mono : ∀ a0 k, LeO (impl_areBins.f k a0) (impl_areBins.f (k + 1) a0) := by
  intro a0 k
  have ih0 := impl_areBins.mono_l k
  unfold impl_areBins.f
  repeat' first
      | (with_reducible exact ih0 _ _ _ _)
      | (with_reducible exact LeO.refl _)
      | (with_reducible exact LeO.none _)
      | (with_reducible refine LeO.ite ?_ ?_)
      | (with_reducible refine LeO.bind ?_ (fun _ => ?_))
      | exact ih0 _ _ _ _
      | exact LeO.none _
      | refine LeO.ite ?_ ?_
      | refine LeO.bind ?_ (fun _ => ?_)
set_option maxHeartbeats 8000000 in
set_option maxRecDepth 100000 in
theorem impl_areBins.calls (k : Nat) (A0 : Option Addr) (c0 : Nat) (l0 : List (S31)) (r : Bool) (w : World) (hr0 : Kd.C k31 w A0 l0.length l0) (hc0 : l0.length ≤ c0) (h : impl_areBins.f k l0 = some r) :
    Calls Try.prog 64 #[.slice A0 l0.length c0] w fun e w' => e = .returned (.bool r) ∧ Below w.heap.size w w' := by
  have hu31 := Try.underlying31
  have HR0 := Aside0.mk hr0
  have HC0 := Aside0.mk hc0
  clear hr0 hc0
  have HB := Aside0.mk (Below.refl w.heap.size w)
  have H : (impl_areBins.l0 k l0 l0 (l0.length : Int) 0) = some r := h
  clear h
  have H' := Aside0.mk H
  clear H
  go_enter Try.func64, Try.ntmps64
  go_wp2
  go_loopg [7] k (fun kq v7 w' => ∃ (x7_1 : Int), v7 = .int .i64 x7_1 ∧ Aside0 (impl_areBins.l0 kq l0 l0 (l0.length : Int) x7_1 = some r) ∧ Aside0 (kq ≤ k) ∧ Aside0 (Below w.heap.size w w'))
  case atStart => exact ⟨(0), (by first | rfl | (simp; done) | (simp [*]; done)), H', ⟨Nat.le_refl _⟩, ⟨by repeat (first | (with_reducible first | exact HB.out | apply below_alloc | apply pw_below_drewN | apply below_drew1) | exact HB.out)⟩⟩
  case round =>
    clear H'
    obtain ⟨x7_1, rfl, HA, HK1, HB⟩ := hrel
    cases gk with
    | zero => exact absurd HA.out (by simp [impl_areBins.l0])
    | succ k1 =>
      have H := HA.out
      clear HA
      simp only [impl_areBins.l0] at H
      by_cases c2 : x7_1 < (l0.length : Int)
      · rw [if_pos c2] at H
        have c2b0 : decide (x7_1 < (l0.length : Int)) = true := decide_eq_true c2
        clear c2
        by_cases c3 : 0 ≤ x7_1
        · rw [if_pos c3] at H
          have c3b0 : decide (0 ≤ x7_1) = true := decide_eq_true c3
          clear c3
          by_cases c4 : x7_1 < (l0.length : Int)
          · rw [if_pos c4] at H
            have c4b0 : decide (x7_1 < (l0.length : Int)) = true := decide_eq_true c4
            clear c4
            replace H := Option.bind_eq_some_iff.mp H
            obtain ⟨t147, A50, H⟩ := H
            replace H : (if t147 = true then ((impl_within.f ((rd_T31 l0 x7_1).f1) 0 1).bind fun t148 => (if t148 = true then (impl_areBins.l0 k1 l0 l0 (l0.length : Int) (wrap64 (x7_1 + 1))) else (some false))) else (some false)) = some r := H
            have A5 := Aside0.mk A50
            clear A50
            by_cases c6 : t147 = true
            · subst c6
              have H1 : ((impl_within.f ((rd_T31 l0 x7_1).f1) 0 1).bind fun t148 => (if t148 = true then (impl_areBins.l0 k1 l0 l0 (l0.length : Int) (wrap64 (x7_1 + 1))) else (some false))) = some r := by rw [if_pos rfl] at H; exact H
              clear H
              have H := H1
              clear H1
              replace H := Option.bind_eq_some_iff.mp H
              obtain ⟨t148, A70, H⟩ := H
              replace H : (if t148 = true then (impl_areBins.l0 k1 l0 l0 (l0.length : Int) (wrap64 (x7_1 + 1))) else (some false)) = some r := H
              have A7 := Aside0.mk A70
              clear A70
              by_cases c8 : t148 = true
              · subst c8
                have H1 : (impl_areBins.l0 k1 l0 l0 (l0.length : Int) (wrap64 (x7_1 + 1))) = some r := by rw [if_pos rfl] at H; exact H
                clear H
                have H := H1
                clear H1
                have H' := Aside0.mk H
                clear H
                have p145 : 0 ≤ (x7_1 : Int) := of_decide_eq_true (by first | (with_reducible assumption) | assumption)
                have q145 : x7_1 < (l0.length : Int) := of_decide_eq_true (by first | (with_reducible assumption) | assumption)
                obtain ⟨ad145, e145, hx145_0, hx145_1⟩ := at_T31 HR0.out x7_1 p145 q145
                cases e145
                replace hx145_0 := (HB.out.cell (World.block_lt_of_cell? w _ hx145_0)).trans hx145_0
                replace hx145_1 := (HB.out.cell (World.block_lt_of_cell? w _ hx145_1)).trans hx145_1
                replace p145 := eq_true p145
                replace q145 := eq_true q145
                go_wp2_with (first | ((with_reducible refine gate_dst (N := 4) rfl ?_); refine box_event ?hg (N := 4) ?hd (cs := #[.int .i64 0, .int .i64 0]) (t := 31) ?hr ?_; (case hd => rfl); (case hg => rfl); (case hr => first | (go_simp; done) | (go_simp; rfl)); intro gb146 hg w9 hbox hb; have n0_ := Aside0.mk (below_step (by repeat (first | (with_reducible first | exact HB.out | apply below_alloc | apply pw_below_drewN | apply below_drew1) | exact HB.out)) hb); have n1_ := Aside0.mk (hbox); have n2_ := Aside0.mk ((by rw [hg]; exact (below_size (by repeat (first | (with_reducible first | exact HB.out | apply below_alloc | apply pw_below_drewN | apply below_drew1) | exact HB.out))) : w.heap.size ≤ gb146)); have n3_ := Aside0.mk ((by rw [hg]; exact (below_size (by repeat (first | (with_reducible first | exact HB.out | apply below_alloc | apply pw_below_drewN | apply below_drew1) | exact HB.out))) : w.heap.size ≤ gb146)); clear HB; have HB := n0_; have BK146 := n1_; have GW146 := n2_; have GE146 := n3_; clear n0_ n1_ n2_ n3_; clear hb hbox hg; have hcz10_0 : w9.cell? ⟨gb146, 0, none⟩ = some (.int .i64 0) := (blk_cell BK146.out 0).trans rfl; have hcz10_1 : w9.cell? ⟨gb146, 1, none⟩ = some (.int .i64 0) := (blk_cell BK146.out 1).trans rfl; have hfz10_0 := blk_frozen BK146.out 0; have hfz10_1 := blk_frozen BK146.out 1) | ((with_reducible refine gate_callee (f := 75) rfl ?_); refine goesL_ (some 13) rfl rfl Try.func75 (by kernel_rfl) rfl #[.int .i64 ((rd_T31 l0 x7_1).f0), .int .i64 0, .int .i64 399] rfl (by (try simp only [List.map_toArray, List.map_cons, List.map_nil]); first | done | rfl | (simp only [List.length_drop, List.length_take]; rfl)) ?_; (with_reducible refine (impl_within.calls ((rd_T31 l0 x7_1).f0) 0 399 true _ A5.out).mono ?_); rintro e w' ⟨rfl, ⟨nd, rfl⟩⟩; refine ⟨_, rfl, ?_⟩) | (go_at_call 75; (with_reducible refine (impl_within.calls ((rd_T31 l0 x7_1).f1) 0 1 true _ A7.out).mono ?_); rintro e w' ⟨rfl, ⟨nd, rfl⟩⟩))
                go_roundg k1
                case measure => have := HK1.out; omega
                case rel => exact ⟨(wrap64 (x7_1 + 1)), (by first | rfl | (simp; done) | (simp [*]; done)), H', ⟨by have := HK1.out; omega⟩, ⟨by repeat (first | (with_reducible first | exact HB.out | apply below_alloc | apply pw_below_drewN | apply below_drew1 | refine below_set ?_ GE146.out) | exact HB.out)⟩⟩
              · replace c8 := Bool.eq_false_iff.mpr c8
                subst c8
                have H1 : (some false) = some r := by rw [if_neg (show ¬ (false = true) by decide)] at H; exact H
                clear H
                have H := H1
                clear H1
                obtain rfl := Option.some.inj H
                have p145 : 0 ≤ (x7_1 : Int) := of_decide_eq_true (by first | (with_reducible assumption) | assumption)
                have q145 : x7_1 < (l0.length : Int) := of_decide_eq_true (by first | (with_reducible assumption) | assumption)
                obtain ⟨ad145, e145, hx145_0, hx145_1⟩ := at_T31 HR0.out x7_1 p145 q145
                cases e145
                replace hx145_0 := (HB.out.cell (World.block_lt_of_cell? w _ hx145_0)).trans hx145_0
                replace hx145_1 := (HB.out.cell (World.block_lt_of_cell? w _ hx145_1)).trans hx145_1
                replace p145 := eq_true p145
                replace q145 := eq_true q145
                go_wp2_with (first | ((with_reducible refine gate_dst (N := 4) rfl ?_); refine box_event ?hg (N := 4) ?hd (cs := #[.int .i64 0, .int .i64 0]) (t := 31) ?hr ?_; (case hd => rfl); (case hg => rfl); (case hr => first | (go_simp; done) | (go_simp; rfl)); intro gb146 hg w11 hbox hb; have n0_ := Aside0.mk (below_step (by repeat (first | (with_reducible first | exact HB.out | apply below_alloc | apply pw_below_drewN | apply below_drew1) | exact HB.out)) hb); have n1_ := Aside0.mk (hbox); have n2_ := Aside0.mk ((by rw [hg]; exact (below_size (by repeat (first | (with_reducible first | exact HB.out | apply below_alloc | apply pw_below_drewN | apply below_drew1) | exact HB.out))) : w.heap.size ≤ gb146)); have n3_ := Aside0.mk ((by rw [hg]; exact (below_size (by repeat (first | (with_reducible first | exact HB.out | apply below_alloc | apply pw_below_drewN | apply below_drew1) | exact HB.out))) : w.heap.size ≤ gb146)); clear HB; have HB := n0_; have BK146 := n1_; have GW146 := n2_; have GE146 := n3_; clear n0_ n1_ n2_ n3_; clear hb hbox hg; have hcz12_0 : w11.cell? ⟨gb146, 0, none⟩ = some (.int .i64 0) := (blk_cell BK146.out 0).trans rfl; have hcz12_1 : w11.cell? ⟨gb146, 1, none⟩ = some (.int .i64 0) := (blk_cell BK146.out 1).trans rfl; have hfz12_0 := blk_frozen BK146.out 0; have hfz12_1 := blk_frozen BK146.out 1) | ((with_reducible refine gate_callee (f := 75) rfl ?_); refine goesL_ (some 13) rfl rfl Try.func75 (by kernel_rfl) rfl #[.int .i64 ((rd_T31 l0 x7_1).f0), .int .i64 0, .int .i64 399] rfl (by (try simp only [List.map_toArray, List.map_cons, List.map_nil]); first | done | rfl | (simp only [List.length_drop, List.length_take]; rfl)) ?_; (with_reducible refine (impl_within.calls ((rd_T31 l0 x7_1).f0) 0 399 true _ A5.out).mono ?_); rintro e w' ⟨rfl, ⟨nd, rfl⟩⟩; refine ⟨_, rfl, ?_⟩) | (go_at_call 75; (with_reducible refine (impl_within.calls ((rd_T31 l0 x7_1).f1) 0 1 false _ A7.out).mono ?_); rintro e w' ⟨rfl, ⟨nd, rfl⟩⟩))
                go_ret
                exact ⟨by first | rfl | (simp [errW_none, errW_some] <;> rfl) | (simp [*, errW_none, errW_some] <;> rfl), by repeat (first | (with_reducible first | exact HB.out | apply below_alloc | apply pw_below_drewN | apply below_drew1 | refine below_set ?_ GE146.out) | exact HB.out)⟩
            · replace c6 := Bool.eq_false_iff.mpr c6
              subst c6
              have H1 : (some false) = some r := by rw [if_neg (show ¬ (false = true) by decide)] at H; exact H
              clear H
              have H := H1
              clear H1
              obtain rfl := Option.some.inj H
              have p145 : 0 ≤ (x7_1 : Int) := of_decide_eq_true (by first | (with_reducible assumption) | assumption)
              have q145 : x7_1 < (l0.length : Int) := of_decide_eq_true (by first | (with_reducible assumption) | assumption)
              obtain ⟨ad145, e145, hx145_0, hx145_1⟩ := at_T31 HR0.out x7_1 p145 q145
              cases e145
              replace hx145_0 := (HB.out.cell (World.block_lt_of_cell? w _ hx145_0)).trans hx145_0
              replace hx145_1 := (HB.out.cell (World.block_lt_of_cell? w _ hx145_1)).trans hx145_1
              replace p145 := eq_true p145
              replace q145 := eq_true q145
              go_wp2_with (first | ((with_reducible refine gate_dst (N := 4) rfl ?_); refine box_event ?hg (N := 4) ?hd (cs := #[.int .i64 0, .int .i64 0]) (t := 31) ?hr ?_; (case hd => rfl); (case hg => rfl); (case hr => first | (go_simp; done) | (go_simp; rfl)); intro gb146 hg w13 hbox hb; have n0_ := Aside0.mk (below_step (by repeat (first | (with_reducible first | exact HB.out | apply below_alloc | apply pw_below_drewN | apply below_drew1) | exact HB.out)) hb); have n1_ := Aside0.mk (hbox); have n2_ := Aside0.mk ((by rw [hg]; exact (below_size (by repeat (first | (with_reducible first | exact HB.out | apply below_alloc | apply pw_below_drewN | apply below_drew1) | exact HB.out))) : w.heap.size ≤ gb146)); have n3_ := Aside0.mk ((by rw [hg]; exact (below_size (by repeat (first | (with_reducible first | exact HB.out | apply below_alloc | apply pw_below_drewN | apply below_drew1) | exact HB.out))) : w.heap.size ≤ gb146)); clear HB; have HB := n0_; have BK146 := n1_; have GW146 := n2_; have GE146 := n3_; clear n0_ n1_ n2_ n3_; clear hb hbox hg; have hcz14_0 : w13.cell? ⟨gb146, 0, none⟩ = some (.int .i64 0) := (blk_cell BK146.out 0).trans rfl; have hcz14_1 : w13.cell? ⟨gb146, 1, none⟩ = some (.int .i64 0) := (blk_cell BK146.out 1).trans rfl; have hfz14_0 := blk_frozen BK146.out 0; have hfz14_1 := blk_frozen BK146.out 1) | ((with_reducible refine gate_callee (f := 75) rfl ?_); refine goesL_ (some 13) rfl rfl Try.func75 (by kernel_rfl) rfl #[.int .i64 ((rd_T31 l0 x7_1).f0), .int .i64 0, .int .i64 399] rfl (by (try simp only [List.map_toArray, List.map_cons, List.map_nil]); first | done | rfl | (simp only [List.length_drop, List.length_take]; rfl)) ?_; (with_reducible refine (impl_within.calls ((rd_T31 l0 x7_1).f0) 0 399 false _ A5.out).mono ?_); rintro e w' ⟨rfl, ⟨nd, rfl⟩⟩; refine ⟨_, rfl, ?_⟩))
              go_ret
              exact ⟨by first | rfl | (simp [errW_none, errW_some] <;> rfl) | (simp [*, errW_none, errW_some] <;> rfl), by repeat (first | (with_reducible first | exact HB.out | apply below_alloc | apply pw_below_drewN | apply below_drew1 | refine below_set ?_ GE146.out) | exact HB.out)⟩
          · rw [if_neg c4] at H
            exact absurd H (by simp)
        · rw [if_neg c3] at H
          exact absurd H (by simp)
      · rw [if_neg c2] at H
        have c2b0 : decide (x7_1 < (l0.length : Int)) = false := decide_eq_false c2
        clear c2
        obtain rfl := Option.some.inj H
        go_wp2
        go_ret
        exact ⟨by first | rfl | (simp [errW_none, errW_some] <;> rfl) | (simp [*, errW_none, errW_some] <;> rfl), by repeat (first | (with_reducible first | exact HB.out | apply below_alloc | apply pw_below_drewN | apply below_drew1) | exact HB.out)⟩

def binB (x : S31) : Bool := inR x.f0 0 399 && inR x.f1 0 1
def binsB (l : List S31) : Bool := l.all binB && decide ((l.length : Int) ≤ 200000)
theorem areBins_l0 (l : List S31) (hl : l.length ≤ 4611686018427387904) : ∀ (d i : Nat), i + d = l.length → Ev (fun k => impl_areBins.l0 k l l (l.length : Int) i) ((l.drop i).all binB && decide ((l.length : Int) ≤ 200000)) := by
  intro d
  induction d with
  | zero =>
    intro i hi
    refine Ev.step (fun k => by rw [impl_areBins.l0]) ?_
    refine evNeg (by omega) ?_
    rw [List.drop_eq_nil_of_le (by omega)]
    exact Ev.now _
  | succ d ih =>
    intro i hi
    have h1 : i < l.length := by omega
    refine Ev.step (fun k => by rw [impl_areBins.l0]) ?_
    refine evPos (by omega) (evPos (by omega) (evPos (by omega) ?_))
    rw [List.drop_eq_getElem_cons h1, List.all_cons, show rd_T31 l (i : Int) = l[i] from by simp [rd_T31, List.getD, h1]]
    refine evBind (evConst (within_f _ _ _)) (evIf (fun h2 => ?_) (fun h2 => ?_))
    · refine evBind (evConst (within_f _ _ _)) (evIf (fun h3 => ?_) (fun h3 => ?_))
      · have e : binB l[i] = true := by unfold binB; rw [h2, h3]; rfl
        rw [e, Bool.true_and, show (i : Int) + 1 = ((i + 1 : Nat) : Int) from by omega, w64 (by omega) (by omega)]
        exact ih (i + 1) (by omega)
      · have e : binB l[i] = false := by unfold binB; rw [Bool.eq_false_iff.2 h3, Bool.and_false]
        rw [e, Bool.false_and, Bool.false_and]
        exact Ev.now _
    · have e : binB l[i] = false := by unfold binB; rw [Bool.eq_false_iff.2 h2, Bool.false_and]
      rw [e, Bool.false_and, Bool.false_and]
      exact Ev.now _
theorem areBins_f (l : List S31) (hl : l.length ≤ 4611686018427387904) : Ev (fun k => impl_areBins.f k l) (binsB l) := by
  have := areBins_l0 l hl l.length 0 (by omega)
  simpa [impl_areBins.f, binsB] using this
theorem binsB_len {l : List S31} (h : binsB l = true) : l.length ≤ 200000 := by
  simp only [binsB, Bool.and_eq_true, decide_eq_true_eq] at h
  omega

/-! ### impl_likelihoods_learn: function 106 (by hand) -/
/-- The likelihoods of the contexts, in an array at block p. -/
def LikAt (W : World) (p : Nat) (lik : List Int) : Prop := W.heap[p]? = some (.cells (nums .i64 lik).toArray 126 (0, 0))
theorem lik_cell {W : World} {p : Nat} {lik : List Int} (h : LikAt W p lik) (i : Nat) (hi : i < lik.length) : W.cell? ⟨p, i, none⟩ = some (.int .i64 (rd lik i)) := by
  rw [blk_cell h i, rd_nat hi]
  simp [nums, hi]
theorem lik_set {W : World} {p : Nat} {lik : List Int} (h : LikAt W p lik) (i : Nat) (x : Int) : LikAt (W.setCell ⟨p, i, none⟩ (.int .i64 x)) p (lik.set i x) := by
  unfold LikAt
  rw [blk_set h i]
  simp [nums, List.map_set]
set_option maxHeartbeats 4000000 in
set_option maxRecDepth 100000 in
theorem iLearn_calls (p : Nat) (lik : List Int) (ctx : Nat) (bit : Int) (w : World) (h : LikAt w p lik) (hl : LikOk lik) (hc : ctx < 400) :
    Calls Try.prog 106 #[.pointer (some ⟨p, 0, none⟩), .int .i64 ctx, .int .i64 bit] w fun e w' => e = .returned (.tuple #[]) ∧ ∃ n, w' = (w.setCell ⟨p, ctx, none⟩ (.int .i64 (learnP (rd lik ctx) bit))).drewN n := by
  have hx := lik_cell h ctx (by rw [hl.1]; exact hc)
  have hf := blk_frozen h ctx
  have hr := lik_rd hl (c := (ctx : Int)) (by omega) (by omega)
  generalize rd lik (ctx : Int) = x at hx hr ⊢
  clear h
  have hlt : (ctx : Int) < 400 := by omega
  obtain ⟨hr0, hr1⟩ := hr
  by_cases hb : bit = 0
  · subst hb
    have HE := Aside0.mk (show learnP x 0 = x + (4096 - x) / 32 from rfl)
    rw [HE.out]
    clear HE
    go_enter Try.func106, Try.ntmps106
    go_wp2
    go_region
    go_end0
    exact ⟨rfl, 1, rfl⟩
  · have hb0 : (bit == 0) = false := beq_eq_false_iff_ne.mpr hb
    have HE := Aside0.mk (show learnP x bit = x - x / 32 from by unfold learnP; rw [if_neg hb])
    rw [HE.out]
    clear HE hb
    go_enter Try.func106, Try.ntmps106
    go_wp2
    go_region
    go_end0
    exact ⟨rfl, 1, rfl⟩

/-! ### impl_newLikelihoods: function 98 (by hand) -/
def likK (k : Nat) : List Int := List.replicate k 2048 ++ List.replicate (400 - k) 0
theorem likK_length {k : Nat} (h : k ≤ 400) : (likK k).length = 400 := by simp only [likK, List.length_append, List.length_replicate]; omega
theorem likK_all : likK 400 = likL := by
  unfold likK likL
  rw [Nat.sub_self, List.replicate_zero, List.append_nil]
theorem likK_set {k : Nat} (h : k < 400) : (likK k).set k 2048 = likK (k + 1) := by
  unfold likK
  rw [List.set_append_right _ _ (by rw [List.length_replicate]; exact Nat.le_refl _), List.length_replicate, Nat.sub_self, show 400 - k = (400 - (k + 1)) + 1 from by omega, List.replicate_succ (n := 400 - (k + 1)), List.set_cons_zero, List.replicate_succ' (n := k), List.append_assoc]
  rfl
theorem lik_zero (w : World) : LikAt (w.alloc (.cells Try.zeroCells126 126)) w.heap.size (likK 0) := by
  unfold LikAt
  rw [blk_new]
  exact congrArg (fun c => some (Obj.cells c 126 (0, 0))) (by kernel_rfl)
set_option maxHeartbeats 4000000 in
set_option maxRecDepth 100000 in
theorem iNewLik_calls (w : World) : Calls Try.prog 98 #[] w fun e w' => ∃ p, e = .returned (.pointer (some ⟨p, 0, none⟩)) ∧ LikAt w' p likL ∧ w.heap.size ≤ p ∧ Below w.heap.size w w' := by
  have HL := Aside0.mk (lik_zero w)
  have HB := Aside0.mk (below_alloc (Below.refl w.heap.size w) (.cells Try.zeroCells126 126))
  go_enter Try.func98, Try.ntmps98
  go_wp2
  go_loopg [5] 400 (fun kq v5 w' => ∃ (k : Nat), v5 = .int .i64 (k : Int) ∧ Aside0 (k + kq = 400) ∧ Aside0 (LikAt w' w.heap.size (likK k)) ∧ Aside0 (Below w.heap.size w w'))
  case atStart => exact ⟨0, rfl, ⟨rfl⟩, HL, HB⟩
  case round =>
    clear HL HB
    obtain ⟨k, rfl, HK, HL, HB⟩ := hrel
    by_cases hk : k < 400
    · have hx := lik_cell HL.out k (by rw [likK_length (by omega)]; exact hk)
      have hf := blk_frozen HL.out k
      have hk2 : (k : Int) < 400 := by omega
      go_wp2
      go_roundg (400 - (k + 1))
      case measure => have := HK.out; omega
      case rel =>
        refine ⟨k + 1, by simp, ⟨by omega⟩, ⟨?_⟩, ⟨HB.out.setCell (Nat.le_refl _) _⟩⟩
        have := lik_set HL.out k 2048
        rw [likK_set hk] at this
        exact this
    · have hk2 : ¬ (k : Int) < 400 := by omega
      have e := HK.out
      obtain rfl : k = 400 := by omega
      clear e
      go_wp2
      go_ret
      exact ⟨_, rfl, by rw [← likK_all]; exact HL.out, Nat.le_refl _, HB.out⟩

end Go.Proofs.Ytdeheflbigggbaa.CM
