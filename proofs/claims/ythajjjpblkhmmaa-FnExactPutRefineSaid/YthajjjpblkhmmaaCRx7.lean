/- Functions that a law of this seat reaches: written by a program of this session (wip/xprint.py), and by hand. -/
import Derived.Test.YthajjjpblkhmmaaCRx0
import Derived.Test.YthajjjpblkhmmaaCRx2
import Derived.Test.YthajjjpblkhmmaaCRx3
import Derived.Test.YthajjjpblkhmmaaCRx5
import Derived.Test.YthajjjpblkhmmaaCRx6
namespace Go.Proofs.Ythajjjpblkhmmaa.CR
open Go.RowKit Go.Proofs.Ythajjjpblkhmmaa.B Go.Proofs.YthajjjpblkhmmaaW.PrintWords Go.Proofs.YthajjjpblkhmmaaW.PrintLast Go.Proofs.YthajjjpblkhmmaaW.PrintMore
attribute [local go_sem] max2_int min2_int max_two min_two max_three min_three max_four min_four   -- for this text's walks alone
set_option linter.unusedVariables false
set_option linter.unusedSimpArgs false

theorem newV_i {v n low : Int} (hv : -16383 ≤ v ∧ v ≤ 16383) (hn : -1 ≤ n ∧ n ≤ 1) (h0 : 0 ≤ low) (h1 : low ≤ 13) :
    (v < 0 → wrap64 (v + shl .i64 (wrap64 (-n)) low) = newV v n low) ∧ (¬ v < 0 → wrap64 (v + shl .i64 n low) = newV v n low) := by
  obtain ⟨p1, p2⟩ := pow13 low h0 h1
  have e : ∀ x : Int, -1 ≤ x → x ≤ 1 → shl .i64 x low = x * 2 ^ low.toNat := fun x x0 x1 => by
    unfold shl
    rw [Nat.min_eq_left (by simp [IntKind.bits]; omega), i64_w]
    generalize (2 : Int) ^ low.toNat = P at p1 p2 ⊢
    have h : x = -1 ∨ x = 0 ∨ x = 1 := by omega
    rcases h with rfl | rfl | rfl <;> exact w64 (by omega) (by omega)
  rw [w64 (x := -n) (by omega) (by omega), e (-n) (by omega) (by omega), e n hn.1 hn.2]
  unfold newV
  generalize (2 : Int) ^ low.toNat = P at p1 p2 ⊢
  have h : n = -1 ∨ n = 0 ∨ n = 1 := by omega
  refine ⟨fun hc => ?_, fun hc => ?_⟩
  · rw [if_pos hc]
    rcases h with rfl | rfl | rfl <;> exact w64 (by omega) (by omega)
  · rw [if_neg hc]
    rcases h with rfl | rfl | rfl <;> exact w64 (by omega) (by omega)
theorem pr_levels (b list : List Int) (f low : Int) (hb : numsB b (-16383) 16383 = true) (h0 : 0 ≤ f) (hl : f + list.length ≤ 64) (ha : ∀ j : Nat, j < list.length → bitAt2 b list f j = true) : numsB (mapR (prF b list f low list.length)) (-16383) 16383 = okAll b list f low := by
  have hlen := nums_len hb
  have hbr : ∀ p : Nat, p < 64 → -16383 ≤ rd b (p : Int) ∧ rd b (p : Int) ≤ 16383 := fun p hp => by
    rw [rd_nat (show p < b.length by omega)]
    simp only [numsB, Bool.and_eq_true, allR] at hb
    exact inR_iff.1 (List.all_eq_true.1 hb.2 _ (List.getElem_mem _))
  rw [Bool.eq_iff_iff]
  refine ⟨fun h => okAll_of (fun j hj => ?_), fun h => mapR_all (fun p hp => ?_)⟩
  · have hj2 := bitB_iff.1 (ha j hj)
    have hr := zz_rd (f.toNat + j) (by omega)
    obtain ⟨p, hp⟩ : ∃ p : Nat, rd zzL ((f.toNat + j : Nat) : Int) = p := ⟨(rd zzL ((f.toNat + j : Nat) : Int)).toNat, by omega⟩
    have hz := zz_zi (j := f.toNat + j) (by omega)
    rw [hp, Int.toNat_natCast] at hz
    have hm : -16383 ≤ rd (mapR (prF b list f low list.length)) (p : Int) ∧ rd (mapR (prF b list f low list.length)) (p : Int) ≤ 16383 := by
      rw [hp] at hr
      rw [rd_nat (show p < _ by rw [mapR_length]; omega)]
      simp only [numsB, Bool.and_eq_true, allR] at h
      exact inR_iff.1 (List.all_eq_true.1 h.2 _ (List.getElem_mem _))
    rw [hp] at hr
    rw [mapR_rd _ (by omega)] at hm
    unfold prF at hm
    rw [if_pos (by rw [hz]; omega), hz, show ((f.toNat + j : Nat) : Int) - f = (j : Int) from by omega] at hm
    have et : rd (toZ b) (f + j) = rd b (p : Int) := by rw [show f + (j : Int) = ((f.toNat + j : Nat) : Int) from by omega, toZ_rd b _ (by omega), hp]
    refine okB_iff.2 ?_
    rw [et] at hj2 ⊢
    exact ⟨hj2.1, hj2.2, hm⟩
  · unfold prF
    obtain ⟨z1, z2⟩ := zi_all hp
    by_cases hh : f ≤ (zi p : Int) ∧ (zi p : Int) < f + list.length
    · rw [if_pos hh]
      have := List.all_eq_true.1 h (zi p - f.toNat) (List.mem_range.2 (by omega))
      have h5 := (okB_iff.1 this).2.2
      rw [show f + ((zi p - f.toNat : Nat) : Int) = (zi p : Int) from by omega, toZ_rd b _ z1, z2, show ((zi p - f.toNat : Nat) : Int) = (zi p : Int) - f from by omega] at h5
      exact h5
    · rw [if_neg hh]
      exact hbr p hp
theorem iRefP_l0 (b list c : List Int) (hb : numsB b (-16383) 16383 = true) (f t h low : Int) (h0 : 0 ≤ f) (h1 : f ≤ t) (h2 : t ≤ 63) (h3 : 0 ≤ low) (h4 : low ≤ 13) (hl : (list.length : Int) = t - f + 1) :
    ∀ (d m : Nat), m + d = list.length → (∀ j : Nat, j < m → bitAt2 b list f j = true) →
      EvP (fun k => impl_putRefine.l0 k (mapR (prF b list f low m)) zzL list (list.length : Int) m c f t h low) (fun r => if okAll b list f low = true then r = (true, mapR (prF b list f low list.length)) else r.1 = false) := by
  intro d
  induction d with
  | zero =>
    intro m hm hd
    obtain rfl : m = list.length := by omega
    refine evpStep (fun k => by rw [impl_putRefine.l0]) (evpNeg (by omega) ?_)
    refine evpBind (Q := fun q => q = okAll b list f low) (evpOf (isLevels_f _) (pr_levels b list f low hb h0 (by omega) hd)) (fun q hq => ?_)
    subst hq
    by_cases ha : okAll b list f low = true
    · exact evpNow rfl (by simp [ha])
    · exact evpNow rfl (by simp [ha])
  | succ d ih =>
    intro m hm hd
    have hml : m < list.length := by omega
    obtain ⟨j, hj⟩ : ∃ j : Nat, f + m = j := ⟨(f + m).toNat, by omega⟩
    have hz := zz_rd j (by omega)
    have hbl := nums_len hb
    have ea := pr_at b list f low m j hj (by omega)
    have et : rd (toZ b) (f + m) = rd b (rd zzL (j : Int)) := by rw [hj, toZ_rd b _ (by omega)]
    have hv : -16383 ≤ rd b (rd zzL (j : Int)) ∧ rd b (rd zzL (j : Int)) ≤ 16383 := by
      obtain ⟨p, hp⟩ : ∃ p : Nat, rd zzL (j : Int) = p := ⟨(rd zzL (j : Int)).toNat, by omega⟩
      rw [hp] at hz ⊢
      rw [rd_nat (show p < b.length by omega)]
      simp only [numsB, Bool.and_eq_true, allR] at hb
      exact inR_iff.1 (List.all_eq_true.1 hb.2 _ (List.getElem_mem _))
    have no : bitAt2 b list f m = false → EvP (fun _ => (some (false, mapR (prF b list f low m)))) (fun r => if okAll b list f low = true then r = (true, mapR (prF b list f low list.length)) else r.1 = false) := fun hno => by
      have : okAt b list f low m = false := Bool.eq_false_iff.2 fun hk => by
        have h5 := okB_iff.1 hk
        have h6 : bitAt2 b list f m = true := bitB_iff.2 ⟨h5.1, h5.2.1⟩
        rw [hno] at h6
        cases h6
      exact evpNow rfl (by simp [okAll_no hml this])
    refine evpStep (fun k => by rw [impl_putRefine.l0]) ?_
    rw [hj, w64n (n := j) (by omega)]
    refine evpPos (by omega) (evpPos (by omega) (evpPos (by omega) (evpPos (by omega) (evpPos (by rw [zzL_length]; omega) (evpPos hz.1 (evpPos (by rw [mapR_length]; omega) ?_))))))
    rw [ea]
    refine evpBind (Q := fun q => q = inR (rd list (m : Int)) (-1) 1) (evpNow (within_f _ _ _) rfl) (fun q hq => ?_)
    subst hq
    refine evpIf (fun hn => ?_) (fun hn => no ?_)
    · have hn2 := inR_iff.1 hn
      obtain ⟨e1, e2⟩ := newV_i (v := rd b (rd zzL (j : Int))) (n := rd list (m : Int)) (low := low) hv hn2 h3 h4
      have go : (0 ≤ rd list (m : Int) ∨ rd b (rd zzL (j : Int)) = 0) → EvP (fun k => impl_putRefine.l0 k ((mapR (prF b list f low m)).set (rd zzL (j : Int)).toNat (newV (rd b (rd zzL (j : Int))) (rd list (m : Int)) low)) zzL list (list.length : Int) (wrap64 ((m : Int) + 1)) c f t h low) (fun r => if okAll b list f low = true then r = (true, mapR (prF b list f low list.length)) else r.1 = false) := fun hor => by
        rw [pr_set b list f low m j hj (by omega), show (m : Int) + 1 = ((m + 1 : Nat) : Int) from by omega, w64n (by omega)]
        refine ih (m + 1) (by omega) (fun i hi => ?_)
        by_cases e : i = m
        · rw [e]
          refine bitB_iff.2 ⟨hn2, ?_⟩
          rw [et]
          exact hor
        · exact hd i (by omega)
      have two : (0 ≤ rd list (m : Int) ∨ rd b (rd zzL (j : Int)) = 0) → EvP (fun k => if (rd b (rd zzL (j : Int))) < 0 then (if 0 ≤ low then (impl_putRefine.l0 k ((mapR (prF b list f low m)).set (rd zzL (j : Int)).toNat (wrap64 (rd b (rd zzL (j : Int)) + shl .i64 (wrap64 (-(rd list (m : Int)))) low))) zzL list (list.length : Int) (wrap64 ((m : Int) + 1)) c f t h low) else none) else (if 0 ≤ low then (impl_putRefine.l0 k ((mapR (prF b list f low m)).set (rd zzL (j : Int)).toNat (wrap64 (rd b (rd zzL (j : Int)) + shl .i64 (rd list (m : Int)) low))) zzL list (list.length : Int) (wrap64 ((m : Int) + 1)) c f t h low) else none)) (fun r => if okAll b list f low = true then r = (true, mapR (prF b list f low list.length)) else r.1 = false) := fun hor => by
        refine evpIf (fun hc => evpPos h3 ?_) (fun hc => evpPos h3 ?_)
        · rw [e1 hc]
          exact go hor
        · rw [e2 hc]
          exact go hor
      refine evpIf (fun hneg => evpIf (fun h00 => two (.inr h00)) (fun h00 => no ?_)) (fun hneg => two (.inl (by omega)))
      refine Bool.eq_false_iff.2 fun hk => ?_
      have := (bitB_iff.1 hk).2
      rw [et] at this
      omega
    · refine Bool.eq_false_iff.2 fun hk => hn ?_
      exact inR_iff.2 (bitB_iff.1 hk).1
theorem iPRef_f (b list c : List Int) (f t h l : Int) (hb : numsB b (-16383) 16383 = true) (hp : passB f t h l = true) (hlen : list.length ≤ 1048576) :
    EvP (fun k => impl_putRefine.f k b c f t h l list) (fun r => if (list.length : Int) = t - f + 1 ∧ okAll b list f l = true then r = (true, mapR (prF b list f l list.length)) else r.1 = false) := by
  obtain ⟨p1, p2, p3, p4, p5, _⟩ := pass_bounds hp
  unfold impl_putRefine.f
  refine evpBind (Q := fun z => z = zzL) (evpOf izz_f rfl) (fun z hz => ?_)
  subst hz
  rw [w64 (x := t - f) (by omega) (by omega), w64 (by omega) (by omega)]
  refine evpIf (fun he => ?_) (fun he => evpNow rfl (by rw [if_neg (fun h => he h.1)]))
  have := iRefP_l0 b list c hb f t h l p1 p2 p3 p4 p5 he list.length 0 (by omega) (fun j hj => by omega)
  rw [mapR_congr (f := fun p => rd b (p : Int)) (fun p _ => by unfold prF; rw [if_neg (by omega)]), mapR_self (nums_len hb)] at this
  refine evpMono this (fun r hr => ?_)
  by_cases ha : okAll b list f l = true
  · rw [if_pos ha] at hr
    rw [if_pos ⟨he, ha⟩]
    exact hr
  · rw [if_neg ha] at hr
    rw [if_neg (fun h => ha h.2)]
    exact hr

/-! ### impl_PutRefine: function 30 -/
def impl_PutRefine.j0 : Nat → List Int → List Int → Bool → List Int → Int → Int → Int → Int → Option (List Int)
  | 0, _, _, _, _, _, _, _, _ => none
  | k + 1, x0, x2, x20, x227000, x227001, x227002, x227003, x227004 => if x20 = true then (some ([] : List Int)) else ((some (([] : List Int) : List Int)).bind fun y229 => (if y229.length + x0.length < 17592186044416 then ((impl_putRefine.f k (y229 ++ x0) x227000 x227001 x227002 x227003 x227004 x2).bind fun bt235 => (if bt235.1 = true then (some bt235.2) else (some ([] : List Int)))) else (none)))
def impl_PutRefine.f (k : Nat) (l0 : List Int) (l1_0 : List Int) (a1_1 : Int) (a1_2 : Int) (a1_3 : Int) (a1_4 : Int) (l2 : List Int) : Option (List Int) := (impl_isLevels.f k l0).bind fun t227 => (if t227 = true then ((impl_Scan_isPass.f l1_0 a1_1 a1_2 a1_3 a1_4).bind fun t228 => (if t228 = true then (impl_PutRefine.j0 k l0 l2 (a1_3 == 0) l1_0 a1_1 a1_2 a1_3 a1_4) else (impl_PutRefine.j0 k l0 l2 true l1_0 a1_1 a1_2 a1_3 a1_4))) else (impl_PutRefine.j0 k l0 l2 true l1_0 a1_1 a1_2 a1_3 a1_4))
theorem impl_PutRefine.mono_l : ∀ k, (∀ y0 y1 y2 y3 y4 y5 y6 y7, LeO (impl_PutRefine.j0 k y0 y1 y2 y3 y4 y5 y6 y7) (impl_PutRefine.j0 (k + 1) y0 y1 y2 y3 y4 y5 y6 y7))
  | 0 => fun _ _ _ _ _ _ _ _ r h => by simp [impl_PutRefine.j0] at h
  | k + 1 => by
    have ih0 := impl_PutRefine.mono_l k
    · intro y0 y1 y2 y3 y4 y5 y6 y7
      unfold impl_PutRefine.j0
      repeat' first
      | (with_reducible exact ih0 _ _ _ _ _ _ _ _)
      | (with_reducible exact impl_isLevels.mono _ _)
      | (with_reducible exact impl_putRefine.mono _ _ _ _ _ _ _ _)
      | (with_reducible exact LeO.refl _)
      | (with_reducible exact LeO.none _)
      | (with_reducible refine LeO.ite ?_ ?_)
      | (with_reducible refine LeO.bind ?_ (fun _ => ?_))
      | exact ih0 _ _ _ _ _ _ _ _
      | exact impl_isLevels.mono _ _
      | exact impl_putRefine.mono _ _ _ _ _ _ _ _
      | exact LeO.none _
      | refine LeO.ite ?_ ?_
      | refine LeO.bind ?_ (fun _ => ?_)
theorem impl_PutRefine.mono : ∀ a0 a1 a2 a3 a4 a5 a6 k, LeO (impl_PutRefine.f k a0 a1 a2 a3 a4 a5 a6) (impl_PutRefine.f (k + 1) a0 a1 a2 a3 a4 a5 a6) := by
  intro a0 a1 a2 a3 a4 a5 a6 k
  have ih0 := impl_PutRefine.mono_l k
  unfold impl_PutRefine.f
  repeat' first
      | (with_reducible exact ih0 _ _ _ _ _ _ _ _)
      | (with_reducible exact impl_isLevels.mono _ _)
      | (with_reducible exact impl_putRefine.mono _ _ _ _ _ _ _ _)
      | (with_reducible exact LeO.refl _)
      | (with_reducible exact LeO.none _)
      | (with_reducible refine LeO.ite ?_ ?_)
      | (with_reducible refine LeO.bind ?_ (fun _ => ?_))
      | exact ih0 _ _ _ _ _ _ _ _
      | exact impl_isLevels.mono _ _
      | exact impl_putRefine.mono _ _ _ _ _ _ _ _
      | exact LeO.none _
      | refine LeO.ite ?_ ?_
      | refine LeO.bind ?_ (fun _ => ?_)
set_option maxHeartbeats 8000000 in
set_option maxRecDepth 100000 in
theorem impl_PutRefine.calls (k : Nat) (A0 : Option Addr) (c0 : Nat) (l0 : List Int) (A1_0 : Option Addr) (c1_0 : Nat) (l1_0 : List Int) (a1_1 : Int) (a1_2 : Int) (a1_3 : Int) (a1_4 : Int) (A2 : Option Addr) (c2 : Nat) (l2 : List Int) (r : List Int) (w : World) (hr0 : Kd.C (Kd.int .i64) w A0 l0.length l0) (hc0 : l0.length ≤ c0) (hr1_0 : Kd.C (Kd.int .i64) w A1_0 l1_0.length l1_0) (hc1_0 : l1_0.length ≤ c1_0) (hr2 : Kd.C (Kd.int .i64) w A2 l2.length l2) (hc2 : l2.length ≤ c2) (h : impl_PutRefine.f k l0 l1_0 a1_1 a1_2 a1_3 a1_4 l2 = some r) :
    Calls Try.prog 30 #[.slice A0 l0.length c0, .agg #[.slice A1_0 l1_0.length c1_0, .int .i64 a1_1, .int .i64 a1_2, .int .i64 a1_3, .int .i64 a1_4], .slice A2 l2.length c2] w fun e w' => ∃ v0_ : Value, e = .returned (v0_) ∧ Kd.R (Kd.int .i64) 3 w' w.heap.size (fun _ => True) v0_ r ∧ Below w.heap.size w w' := by
  have hu28 := Try.underlying28
  have HR0 := Aside0.mk hr0
  have HC0 := Aside0.mk hc0
  clear hr0 hc0
  have HR1_0 := Aside0.mk hr1_0
  have HC1_0 := Aside0.mk hc1_0
  clear hr1_0 hc1_0
  have HR2 := Aside0.mk hr2
  have HC2 := Aside0.mk hc2
  clear hr2 hc2
  have HB := Aside0.mk (Below.refl w.heap.size w)
  have H : ((impl_isLevels.f k l0).bind fun t227 => (if t227 = true then ((impl_Scan_isPass.f l1_0 a1_1 a1_2 a1_3 a1_4).bind fun t228 => (if t228 = true then (impl_PutRefine.j0 k l0 l2 (a1_3 == 0) l1_0 a1_1 a1_2 a1_3 a1_4) else (impl_PutRefine.j0 k l0 l2 true l1_0 a1_1 a1_2 a1_3 a1_4))) else (impl_PutRefine.j0 k l0 l2 true l1_0 a1_1 a1_2 a1_3 a1_4))) = some r := h
  clear h
  have HC4 := Aside0.mk H
  clear H
  go_enter Try.func30, Try.ntmps30
  go_upto_region 1 with (first | ((with_reducible refine gate_dst (N := 4) rfl ?_); refine box_event ?hg (N := 4) ?hd (cs := #[.slice A1_0 l1_0.length c1_0, .int .i64 a1_1, .int .i64 a1_2, .int .i64 a1_3, .int .i64 a1_4]) (t := 28) ?hr ?_; (case hd => rfl); (case hg => rfl); (case hr => first | (go_simp; done) | (go_simp; rfl)); intro gb226 hg w5 hbox hb; have n0_ := Aside0.mk (below_step (by repeat (first | (with_reducible first | exact HB.out | apply below_alloc | apply pw_below_drewN | apply below_drew1) | exact HB.out)) hb); have n1_ := Aside0.mk (hbox); have n2_ := Aside0.mk ((by rw [hg]; exact (below_size (by repeat (first | (with_reducible first | exact HB.out | apply below_alloc | apply pw_below_drewN | apply below_drew1) | exact HB.out))) : w.heap.size ≤ gb226)); have n3_ := Aside0.mk ((by rw [hg]; exact (below_size (by repeat (first | (with_reducible first | exact HB.out | apply below_alloc | apply pw_below_drewN | apply below_drew1) | exact HB.out))) : w.heap.size ≤ gb226)); clear HB; have HB := n0_; have BK226 := n1_; have GW226 := n2_; have GE226 := n3_; clear n0_ n1_ n2_ n3_; clear hb hbox hg))
  (try simp only [Act.put, List.setIfInBounds_toArray, List.set_cons_zero, List.set_cons_succ])
  go_cut [20] (fun v20 wc => ∃ (kq : Nat) (x20_3 : Bool), v20 = .bool x20_3 ∧ Aside0 (impl_PutRefine.j0 kq l0 l2 x20_3 l1_0 a1_1 a1_2 a1_3 a1_4 = some r) ∧ Aside0 (kq ≤ k) ∧ Aside0 (wc.heap[gb226]? = some (.cells #[(.slice A1_0 l1_0.length c1_0), .int .i64 a1_1, .int .i64 a1_2, .int .i64 a1_3, .int .i64 a1_4] 28 (0, 0))) ∧ Aside0 (Below w.heap.size w wc))
  case first =>
    have H := HC4.out
    clear HC4
    replace H := Option.bind_eq_some_iff.mp H
    obtain ⟨t227, A60, H⟩ := H
    replace H : (if t227 = true then ((impl_Scan_isPass.f l1_0 a1_1 a1_2 a1_3 a1_4).bind fun t228 => (if t228 = true then (impl_PutRefine.j0 k l0 l2 (a1_3 == 0) l1_0 a1_1 a1_2 a1_3 a1_4) else (impl_PutRefine.j0 k l0 l2 true l1_0 a1_1 a1_2 a1_3 a1_4))) else (impl_PutRefine.j0 k l0 l2 true l1_0 a1_1 a1_2 a1_3 a1_4)) = some r := H
    have A6 := Aside0.mk A60
    clear A60
    by_cases c7 : t227 = true
    · subst c7
      have H1 : ((impl_Scan_isPass.f l1_0 a1_1 a1_2 a1_3 a1_4).bind fun t228 => (if t228 = true then (impl_PutRefine.j0 k l0 l2 (a1_3 == 0) l1_0 a1_1 a1_2 a1_3 a1_4) else (impl_PutRefine.j0 k l0 l2 true l1_0 a1_1 a1_2 a1_3 a1_4))) = some r := by rw [if_pos rfl] at H; exact H
      clear H
      have H := H1
      clear H1
      replace H := Option.bind_eq_some_iff.mp H
      obtain ⟨t228, A80, H⟩ := H
      replace H : (if t228 = true then (impl_PutRefine.j0 k l0 l2 (a1_3 == 0) l1_0 a1_1 a1_2 a1_3 a1_4) else (impl_PutRefine.j0 k l0 l2 true l1_0 a1_1 a1_2 a1_3 a1_4)) = some r := H
      have A8 := Aside0.mk A80
      clear A80
      by_cases c9 : t228 = true
      · subst c9
        have H1 : (impl_PutRefine.j0 k l0 l2 (a1_3 == 0) l1_0 a1_1 a1_2 a1_3 a1_4) = some r := by rw [if_pos rfl] at H; exact H
        clear H
        have H := H1
        clear H1
        have H' := Aside0.mk H
        clear H
        go_wp2_with (first | ((with_reducible refine gate_callee (f := 73) rfl ?_); refine goesL_ (some 9) rfl rfl Try.func73 (by kernel_rfl) rfl #[.slice A0 l0.length c0] rfl (by (try simp only [List.map_toArray, List.map_cons, List.map_nil]); first | done | rfl | (simp only [List.length_drop, List.length_take]; rfl)) ?_; (with_reducible refine (impl_isLevels.calls k _ _ l0 true _ ?side1 ?side2 A6.out).mono ?_); (case side1 => repeat (first | exact (Kd.C_below HR0.out HB.out) | (with_reducible refine Kd.C_alloc ?_ _) | (with_reducible refine Kd.C_drewN ?_ _) | (with_reducible refine Kd.C_drew ?_))); (case side2 => exact HC0.out); rintro e w' ⟨rfl, ⟨nd, rfl⟩⟩; refine ⟨_, rfl, ?_⟩; have hcz10_0 : w5.cell? ⟨gb226, 0, none⟩ = some (.slice A1_0 l1_0.length c1_0) := (blk_cell BK226.out 0).trans rfl; have hcz10_1 : w5.cell? ⟨gb226, 1, none⟩ = some (.int .i64 a1_1) := (blk_cell BK226.out 1).trans rfl; have hcz10_2 : w5.cell? ⟨gb226, 2, none⟩ = some (.int .i64 a1_2) := (blk_cell BK226.out 2).trans rfl; have hcz10_3 : w5.cell? ⟨gb226, 3, none⟩ = some (.int .i64 a1_3) := (blk_cell BK226.out 3).trans rfl; have hcz10_4 : w5.cell? ⟨gb226, 4, none⟩ = some (.int .i64 a1_4) := (blk_cell BK226.out 4).trans rfl; have hfz10_0 := blk_frozen BK226.out 0; have hfz10_1 := blk_frozen BK226.out 1; have hfz10_2 := blk_frozen BK226.out 2; have hfz10_3 := blk_frozen BK226.out 3; have hfz10_4 := blk_frozen BK226.out 4) | (go_at_call 74; (with_reducible refine (impl_Scan_isPass.calls _ _ l1_0 a1_1 a1_2 a1_3 a1_4 true _ ?side1 ?side2 A8.out).mono ?_); (case side1 => repeat (first | exact (Kd.C_below HR1_0.out (by repeat (first | (with_reducible first | exact HB.out | apply below_alloc | apply pw_below_drewN | apply below_drew1 | refine below_set ?_ GE226.out) | exact HB.out))) | (with_reducible refine Kd.C_alloc ?_ _) | (with_reducible refine Kd.C_drewN ?_ _) | (with_reducible refine Kd.C_drew ?_))); (case side2 => exact HC1_0.out); rintro e w11 ⟨rfl, hb⟩; have n0_ := Aside0.mk (blk_below (g := gb226) (o := .cells #[.slice A1_0 l1_0.length c1_0, .int .i64 a1_1, .int .i64 a1_2, .int .i64 a1_3, .int .i64 a1_4] 28 (0, 0)) (by (with_reducible repeat (first | refine blk_drewN ?_ _ | refine blk_drew ?_ | refine blk_alloc ?_ _)); exact BK226.out) hb); have n1_ := Aside0.mk (below_step (by repeat (first | (with_reducible first | exact HB.out | apply below_alloc | apply pw_below_drewN | apply below_drew1 | refine below_set ?_ GE226.out) | exact HB.out)) hb); clear BK226; clear HB; have BK226 := n0_; have HB := n1_; clear n0_ n1_; (try clear hb); (try clear hb2); (try clear hk); (try clear hi); have hcz12_0 : w11.cell? ⟨gb226, 0, none⟩ = some (.slice A1_0 l1_0.length c1_0) := (blk_cell BK226.out 0).trans rfl; have hcz12_1 : w11.cell? ⟨gb226, 1, none⟩ = some (.int .i64 a1_1) := (blk_cell BK226.out 1).trans rfl; have hcz12_2 : w11.cell? ⟨gb226, 2, none⟩ = some (.int .i64 a1_2) := (blk_cell BK226.out 2).trans rfl; have hcz12_3 : w11.cell? ⟨gb226, 3, none⟩ = some (.int .i64 a1_3) := (blk_cell BK226.out 3).trans rfl; have hcz12_4 : w11.cell? ⟨gb226, 4, none⟩ = some (.int .i64 a1_4) := (blk_cell BK226.out 4).trans rfl; have hfz12_0 := blk_frozen BK226.out 0; have hfz12_1 := blk_frozen BK226.out 1; have hfz12_2 := blk_frozen BK226.out 2; have hfz12_3 := blk_frozen BK226.out 3; have hfz12_4 := blk_frozen BK226.out 4))
        go_meet
        case rel => exact ⟨_, ((a1_3 == 0)), (by first | rfl | (simp; done) | (simp [*]; done)), H', ⟨by first | omega | exact Nat.le_refl _⟩, ⟨by (with_reducible repeat (first | refine blk_drewN ?_ _ | refine blk_drew ?_ | refine blk_alloc ?_ _)); exact BK226.out⟩, ⟨by repeat (first | (with_reducible first | exact HB.out | apply below_alloc | apply pw_below_drewN | apply below_drew1 | refine below_set ?_ GE226.out) | exact HB.out)⟩⟩
      · replace c9 := Bool.eq_false_iff.mpr c9
        subst c9
        have H1 : (impl_PutRefine.j0 k l0 l2 true l1_0 a1_1 a1_2 a1_3 a1_4) = some r := by rw [if_neg (show ¬ (false = true) by decide)] at H; exact H
        clear H
        have H := H1
        clear H1
        have H' := Aside0.mk H
        clear H
        go_wp2_with (first | ((with_reducible refine gate_callee (f := 73) rfl ?_); refine goesL_ (some 9) rfl rfl Try.func73 (by kernel_rfl) rfl #[.slice A0 l0.length c0] rfl (by (try simp only [List.map_toArray, List.map_cons, List.map_nil]); first | done | rfl | (simp only [List.length_drop, List.length_take]; rfl)) ?_; (with_reducible refine (impl_isLevels.calls k _ _ l0 true _ ?side1 ?side2 A6.out).mono ?_); (case side1 => repeat (first | exact (Kd.C_below HR0.out HB.out) | (with_reducible refine Kd.C_alloc ?_ _) | (with_reducible refine Kd.C_drewN ?_ _) | (with_reducible refine Kd.C_drew ?_))); (case side2 => exact HC0.out); rintro e w' ⟨rfl, ⟨nd, rfl⟩⟩; refine ⟨_, rfl, ?_⟩; have hcz13_0 : w5.cell? ⟨gb226, 0, none⟩ = some (.slice A1_0 l1_0.length c1_0) := (blk_cell BK226.out 0).trans rfl; have hcz13_1 : w5.cell? ⟨gb226, 1, none⟩ = some (.int .i64 a1_1) := (blk_cell BK226.out 1).trans rfl; have hcz13_2 : w5.cell? ⟨gb226, 2, none⟩ = some (.int .i64 a1_2) := (blk_cell BK226.out 2).trans rfl; have hcz13_3 : w5.cell? ⟨gb226, 3, none⟩ = some (.int .i64 a1_3) := (blk_cell BK226.out 3).trans rfl; have hcz13_4 : w5.cell? ⟨gb226, 4, none⟩ = some (.int .i64 a1_4) := (blk_cell BK226.out 4).trans rfl; have hfz13_0 := blk_frozen BK226.out 0; have hfz13_1 := blk_frozen BK226.out 1; have hfz13_2 := blk_frozen BK226.out 2; have hfz13_3 := blk_frozen BK226.out 3; have hfz13_4 := blk_frozen BK226.out 4) | (go_at_call 74; (with_reducible refine (impl_Scan_isPass.calls _ _ l1_0 a1_1 a1_2 a1_3 a1_4 false _ ?side1 ?side2 A8.out).mono ?_); (case side1 => repeat (first | exact (Kd.C_below HR1_0.out (by repeat (first | (with_reducible first | exact HB.out | apply below_alloc | apply pw_below_drewN | apply below_drew1 | refine below_set ?_ GE226.out) | exact HB.out))) | (with_reducible refine Kd.C_alloc ?_ _) | (with_reducible refine Kd.C_drewN ?_ _) | (with_reducible refine Kd.C_drew ?_))); (case side2 => exact HC1_0.out); rintro e w14 ⟨rfl, hb⟩; have n0_ := Aside0.mk (blk_below (g := gb226) (o := .cells #[.slice A1_0 l1_0.length c1_0, .int .i64 a1_1, .int .i64 a1_2, .int .i64 a1_3, .int .i64 a1_4] 28 (0, 0)) (by (with_reducible repeat (first | refine blk_drewN ?_ _ | refine blk_drew ?_ | refine blk_alloc ?_ _)); exact BK226.out) hb); have n1_ := Aside0.mk (below_step (by repeat (first | (with_reducible first | exact HB.out | apply below_alloc | apply pw_below_drewN | apply below_drew1 | refine below_set ?_ GE226.out) | exact HB.out)) hb); clear BK226; clear HB; have BK226 := n0_; have HB := n1_; clear n0_ n1_; (try clear hb); (try clear hb2); (try clear hk); (try clear hi)))
        go_meet
        case rel => exact ⟨_, (true), (by first | rfl | (simp; done) | (simp [*]; done)), H', ⟨by first | omega | exact Nat.le_refl _⟩, ⟨by (with_reducible repeat (first | refine blk_drewN ?_ _ | refine blk_drew ?_ | refine blk_alloc ?_ _)); exact BK226.out⟩, ⟨by repeat (first | (with_reducible first | exact HB.out | apply below_alloc | apply pw_below_drewN | apply below_drew1 | refine below_set ?_ GE226.out) | exact HB.out)⟩⟩
    · replace c7 := Bool.eq_false_iff.mpr c7
      subst c7
      have H1 : (impl_PutRefine.j0 k l0 l2 true l1_0 a1_1 a1_2 a1_3 a1_4) = some r := by rw [if_neg (show ¬ (false = true) by decide)] at H; exact H
      clear H
      have H := H1
      clear H1
      have H' := Aside0.mk H
      clear H
      go_wp2_with (first | ((with_reducible refine gate_callee (f := 73) rfl ?_); refine goesL_ (some 9) rfl rfl Try.func73 (by kernel_rfl) rfl #[.slice A0 l0.length c0] rfl (by (try simp only [List.map_toArray, List.map_cons, List.map_nil]); first | done | rfl | (simp only [List.length_drop, List.length_take]; rfl)) ?_; (with_reducible refine (impl_isLevels.calls k _ _ l0 false _ ?side1 ?side2 A6.out).mono ?_); (case side1 => repeat (first | exact (Kd.C_below HR0.out HB.out) | (with_reducible refine Kd.C_alloc ?_ _) | (with_reducible refine Kd.C_drewN ?_ _) | (with_reducible refine Kd.C_drew ?_))); (case side2 => exact HC0.out); rintro e w' ⟨rfl, ⟨nd, rfl⟩⟩; refine ⟨_, rfl, ?_⟩))
      go_meet
      case rel => exact ⟨_, (true), (by first | rfl | (simp; done) | (simp [*]; done)), H', ⟨by first | omega | exact Nat.le_refl _⟩, ⟨by (with_reducible repeat (first | refine blk_drewN ?_ _ | refine blk_drew ?_ | refine blk_alloc ?_ _)); exact BK226.out⟩, ⟨by repeat (first | (with_reducible first | exact HB.out | apply below_alloc | apply pw_below_drewN | apply below_drew1 | refine below_set ?_ GE226.out) | exact HB.out)⟩⟩
  case rest =>
    clear HC4
    try clear c1
    try clear c2
    try clear p2
    try clear c3
    try clear c7
    try clear c9
    try clear hcz10_0
    try clear hcz10_1
    try clear hcz10_2
    try clear hcz10_3
    try clear hcz10_4
    try clear hcz12_0
    try clear hcz12_1
    try clear hcz12_2
    try clear hcz12_3
    try clear hcz12_4
    try clear hcz13_0
    try clear hcz13_1
    try clear hcz13_2
    try clear hcz13_3
    try clear hcz13_4
    try clear hfz10_0
    try clear hfz10_1
    try clear hfz10_2
    try clear hfz10_3
    try clear hfz10_4
    try clear hfz12_0
    try clear hfz12_1
    try clear hfz12_2
    try clear hfz12_3
    try clear hfz12_4
    try clear hfz13_0
    try clear hfz13_1
    try clear hfz13_2
    try clear hfz13_3
    try clear hfz13_4
    obtain ⟨kq, x20_3, rfl, HA, HJ3, BK226, HB⟩ := hcut
    cases kq with
    | zero => exact absurd HA.out (by simp [impl_PutRefine.j0])
    | succ kj3 =>
      have H := HA.out
      clear HA
      simp only [impl_PutRefine.j0] at H
      by_cases c15 : x20_3 = true
      · subst c15
        have H1 : (some ([] : List Int)) = some r := by rw [if_pos rfl] at H; exact H
        clear H
        have H := H1
        clear H1
        obtain rfl := Option.some.inj H
        go_wp2
        go_ret
        exact ⟨_, by first | rfl | (simp [errW_none, errW_some] <;> rfl) | (simp [*, errW_none, errW_some] <;> rfl), by first | exact Kd.R_nil _ _ _ _ _ | exact Kd.N_nil _ _ _ _ _ | exact Kd.V_nil _ _ _ _ _ | exact Kd.Q_nil _ _ _ _ _ | exact Kd.S_nil _ _ _ _ _, by repeat (first | (with_reducible first | exact HB.out | apply below_alloc | apply pw_below_drewN | apply below_drew1 | refine below_set ?_ GE226.out) | exact HB.out)⟩
      · replace c15 := Bool.eq_false_iff.mpr c15
        subst c15
        have H1 : ((some (([] : List Int) : List Int)).bind fun y229 => (if y229.length + l0.length < 17592186044416 then ((impl_putRefine.f kj3 (y229 ++ l0) l1_0 a1_1 a1_2 a1_3 a1_4 l2).bind fun bt235 => (if bt235.1 = true then (some bt235.2) else (some ([] : List Int)))) else (none))) = some r := by rw [if_neg (show ¬ (false = true) by decide)] at H; exact H
        clear H
        have H := H1
        clear H1
        obtain ⟨y229, hy229⟩ : ∃ y_ : List Int, y_ = (([] : List Int)) := ⟨_, rfl⟩
        replace H : (if y229.length + l0.length < 17592186044416 then ((impl_putRefine.f kj3 (y229 ++ l0) l1_0 a1_1 a1_2 a1_3 a1_4 l2).bind fun bt235 => (if bt235.1 = true then (some bt235.2) else (some ([] : List Int)))) else (none)) = some r := by first | (rw [hy229]; with_reducible exact H) | (have H2_ := (Option.bind_some _ _).symm.trans H; rw [hy229]; with_reducible exact H2_) | (have H2_ := (Option.bind_some _ _).symm.trans H; with_reducible exact H2_) | with_reducible exact H | (rw [hy229]; exact H) | exact H
        have Ny229 := Aside0.mk hy229
        clear hy229
        by_cases c16 : y229.length + l0.length < 17592186044416
        · rw [if_pos c16] at H
          have LMc16 := Aside0.mk c16
          clear c16
          obtain ⟨y232, hy232⟩ : ∃ y_ : List Int, y_ = (y229 ++ l0) := ⟨_, rfl⟩
          replace H : ((impl_putRefine.f kj3 y232 l1_0 a1_1 a1_2 a1_3 a1_4 l2).bind fun bt235 => (if bt235.1 = true then (some bt235.2) else (some ([] : List Int)))) = some r := by first | (rw [hy232]; with_reducible exact H) | (have H2_ := (Option.bind_some _ _).symm.trans H; rw [hy232]; with_reducible exact H2_) | (have H2_ := (Option.bind_some _ _).symm.trans H; with_reducible exact H2_) | with_reducible exact H | (rw [hy232]; exact H) | exact H
          have Ny232 := Aside0.mk hy232
          clear hy232
          replace H := Option.bind_eq_some_iff.mp H
          obtain ⟨⟨t235, t236⟩, A170, H⟩ := H
          replace H : (if t235 = true then (some t236) else (some ([] : List Int))) = some r := H
          have A17 := Aside0.mk A170
          clear A170
          by_cases c18 : t235 = true
          · subst c18
            have H1 : (some t236) = some r := by rw [if_pos rfl] at H; exact H
            clear H
            have H := H1
            clear H1
            obtain rfl := Option.some.inj H
            go_wp2_with (first | ((with_reducible refine gate_dst (N := 21) rfl ?_); refine Kd.R_lit (Kd.int .i64) _ 3 ?hg (N := 21) ?hd (xs := ([] : List Int)) (inner := []) (ok := fun _ => True) (okp := fun _ => True) ?hr ?hp (fun _ hk => hk) trivial (Below.refl _ _) (Nat.le_refl _) (by simp) ?_; (case hd => rfl); (case hg => rfl); (case hr => first | (go_simp; done) | (go_simp; rfl)); (case hp => exact (Reps.none _ _)); intro v230 w19 ho20 hb hg_ hnew_; clear hg_ hnew_; (first | rw [← Ny229.out] at ho20 | (simp only [Int.reduceToNat] at ho20; rw [← Ny229.out] at ho20)); have n0_ := Aside0.mk (Kd.R_lower ho20 (below_size (by repeat (first | (with_reducible first | exact HB.out | apply below_alloc | apply pw_below_drewN | apply below_drew1 | refine below_set ?_ GE226.out) | exact HB.out)))); have n1_ := Aside0.mk (blk_below (g := gb226) (o := .cells #[.slice A1_0 l1_0.length c1_0, .int .i64 a1_1, .int .i64 a1_2, .int .i64 a1_3, .int .i64 a1_4] 28 (0, 0)) (by (with_reducible repeat (first | refine blk_drewN ?_ _ | refine blk_drew ?_ | refine blk_alloc ?_ _)); exact BK226.out) hb); have n2_ := Aside0.mk (below_step (by repeat (first | (with_reducible first | exact HB.out | apply below_alloc | apply pw_below_drewN | apply below_drew1 | refine below_set ?_ GE226.out) | exact HB.out)) hb); clear BK226; clear HB; have HO231 := n0_; have BK226 := n1_; have HB := n2_; clear n0_ n1_ n2_; clear hb ho20) | ((with_reducible refine gate_builtin (b := .append) (xs := #[.tmp 21, .tmp 22]) rfl ?_); at_builtin; refine Kd.R_append_rows (Kd.int .i64) (w0 := w) w.heap.size rfl (.tmp 21) (.tmp 22) 22 3 (.int .i64 0) 8 rfl Try.underlying22 info3 rfl (by decide) (by omega) v230 y229 l0 _ _ _ (fun _ => True) (fun _ => False) rfl rfl ?aO ?aR (fun _ _ h => h) (fun _ h => h.elim) ?aF ?aB ?aS ?aL ?_; (case aR => repeat (first | exact (Kd.C_below HR0.out HB.out) | (with_reducible refine Kd.C_alloc ?_ _) | (with_reducible refine Kd.C_drewN ?_ _) | (with_reducible refine Kd.C_drew ?_))); (case aB => exact (by repeat (first | (with_reducible first | exact HB.out | apply below_alloc | apply pw_below_drewN | apply below_drew1 | refine below_set ?_ GE226.out) | exact HB.out))); (case aF => exact (fun _ _ => trivial)); (case aO => exact (by (with_reducible repeat (first | apply Kd.R_alloc | apply Kd.R_drewN | apply Kd.R_drew)); exact HO231.out)); (case aS => exact (below_size (by repeat (first | (with_reducible first | exact HB.out | apply below_alloc | apply pw_below_drewN | apply below_drew1 | refine below_set ?_ GE226.out) | exact HB.out)))); (case aL => have := LMc16.out; omega); intro v233 w21 ho hb hg hat; rw [← Ny232.out] at ho; have n0_ := Aside0.mk (blk_grown (g := gb226) (o := .cells #[.slice A1_0 l1_0.length c1_0, .int .i64 a1_1, .int .i64 a1_2, .int .i64 a1_3, .int .i64 a1_4] 28 (0, 0)) (by (with_reducible repeat (first | refine blk_drewN ?_ _ | refine blk_drew ?_ | refine blk_alloc ?_ _)); exact BK226.out) hg (Kd.R_ne HO231.out BK226.out (by decide))); have n1_ := Aside0.mk (hb); have n2_ := Aside0.mk (ho); clear BK226; clear HB; clear HO231; have BK226 := n0_; have HB := n1_; have HO234 := n2_; clear n0_ n1_ n2_; clear ho hb hg hat; have hcz22_0 : w21.cell? ⟨gb226, 0, none⟩ = some (.slice A1_0 l1_0.length c1_0) := (blk_cell BK226.out 0).trans rfl; have hcz22_1 : w21.cell? ⟨gb226, 1, none⟩ = some (.int .i64 a1_1) := (blk_cell BK226.out 1).trans rfl; have hcz22_2 : w21.cell? ⟨gb226, 2, none⟩ = some (.int .i64 a1_2) := (blk_cell BK226.out 2).trans rfl; have hcz22_3 : w21.cell? ⟨gb226, 3, none⟩ = some (.int .i64 a1_3) := (blk_cell BK226.out 3).trans rfl; have hcz22_4 : w21.cell? ⟨gb226, 4, none⟩ = some (.int .i64 a1_4) := (blk_cell BK226.out 4).trans rfl; have hfz22_0 := blk_frozen BK226.out 0; have hfz22_1 := blk_frozen BK226.out 1; have hfz22_2 := blk_frozen BK226.out 2; have hfz22_3 := blk_frozen BK226.out 3; have hfz22_4 := blk_frozen BK226.out 4; obtain ⟨Ao23, co23, eo23⟩ := Kd.R_slice HO234.out; subst eo23) | ((with_reducible refine gate_callee (f := 81) rfl ?_); refine goesL_ (some 27) rfl rfl Try.func81 (by kernel_rfl) rfl #[.slice Ao23 y232.length co23, .agg #[.slice A1_0 l1_0.length c1_0, .int .i64 a1_1, .int .i64 a1_2, .int .i64 a1_3, .int .i64 a1_4], .slice A2 l2.length c2] rfl (by (try simp only [List.map_toArray, List.map_cons, List.map_nil]); first | done | rfl | (simp only [List.length_drop, List.length_take]; rfl)) ?_; (with_reducible refine (impl_putRefine.calls kj3 (fun k_ => some k_ = (.slice Ao23 y232.length co23 : Value).ownBlock) (.slice Ao23 y232.length co23) y232 _ _ l1_0 a1_1 a1_2 a1_3 a1_4 _ _ l2 true t236 w _ ?side1 ?side2 ?side3 ?side4 ?side5 ?side6 A17.out).mono ?_); (case side1 => repeat (first | (with_reducible first | exact HB.out | apply below_alloc | apply pw_below_drewN | apply below_drew1 | refine below_set ?_ GE226.out) | exact HB.out)); (case side2 => exact Kd.R_tight rfl HO234.out); (case side3 => exact Kd.C_kept_came (Kd.heap_int .i64) HR1_0.out (by repeat (first | (with_reducible first | exact HB.out | apply below_alloc | apply pw_below_drewN | apply below_drew1 | refine below_set ?_ GE226.out) | exact HB.out)) (fun k_ hs_ => (fun e_ => Kd.R_base HO234.out k_ e_.symm) hs_)); (case side4 => exact HC1_0.out); (case side5 => exact Kd.C_kept_came (Kd.heap_int .i64) HR2.out (by repeat (first | (with_reducible first | exact HB.out | apply below_alloc | apply pw_below_drewN | apply below_drew1 | refine below_set ?_ GE226.out) | exact HB.out)) (fun k_ hs_ => (fun e_ => Kd.R_base HO234.out k_ e_.symm) hs_)); (case side6 => exact HC2.out); rintro e w24 ⟨rfl, hy0, hb, hkp⟩; refine ⟨_, rfl, ?_⟩; have n0_ := Aside0.mk (blk_kept (by (with_reducible repeat (first | refine blk_drewN ?_ _ | refine blk_drew ?_ | refine blk_alloc ?_ _)); exact BK226.out) hkp (fun hs_ => (fun e_ => (Kd.R_ne HO234.out BK226.out (by decide)) e_) hs_)); have n1_ := Aside0.mk (Kd.R_reok rfl hy0 (fun k_ e_ => HO234.out.1 k_ e_)); have n2_ := Aside0.mk (hb); clear BK226; clear HO234; clear HB; have BK226 := n0_; have HO234 := n1_; have HB := n2_; clear n0_ n1_ n2_; (try clear hb); (try clear hkp); (try clear hy0)))
            go_ret
            exact ⟨_, by first | rfl | (simp [errW_none, errW_some] <;> rfl) | (simp [*, errW_none, errW_some] <;> rfl), by (with_reducible repeat (first | apply Kd.R_alloc | apply Kd.R_drewN | apply Kd.R_drew)); exact HO234.out, by repeat (first | (with_reducible first | exact HB.out | apply below_alloc | apply pw_below_drewN | apply below_drew1 | refine below_set ?_ GE226.out) | exact HB.out)⟩
          · replace c18 := Bool.eq_false_iff.mpr c18
            subst c18
            have H1 : (some ([] : List Int)) = some r := by rw [if_neg (show ¬ (false = true) by decide)] at H; exact H
            clear H
            have H := H1
            clear H1
            obtain rfl := Option.some.inj H
            go_wp2_with (first | ((with_reducible refine gate_dst (N := 21) rfl ?_); refine Kd.R_lit (Kd.int .i64) _ 3 ?hg (N := 21) ?hd (xs := ([] : List Int)) (inner := []) (ok := fun _ => True) (okp := fun _ => True) ?hr ?hp (fun _ hk => hk) trivial (Below.refl _ _) (Nat.le_refl _) (by simp) ?_; (case hd => rfl); (case hg => rfl); (case hr => first | (go_simp; done) | (go_simp; rfl)); (case hp => exact (Reps.none _ _)); intro v230 w25 ho26 hb hg_ hnew_; clear hg_ hnew_; (first | rw [← Ny229.out] at ho26 | (simp only [Int.reduceToNat] at ho26; rw [← Ny229.out] at ho26)); have n0_ := Aside0.mk (Kd.R_lower ho26 (below_size (by repeat (first | (with_reducible first | exact HB.out | apply below_alloc | apply pw_below_drewN | apply below_drew1 | refine below_set ?_ GE226.out) | exact HB.out)))); have n1_ := Aside0.mk (blk_below (g := gb226) (o := .cells #[.slice A1_0 l1_0.length c1_0, .int .i64 a1_1, .int .i64 a1_2, .int .i64 a1_3, .int .i64 a1_4] 28 (0, 0)) (by (with_reducible repeat (first | refine blk_drewN ?_ _ | refine blk_drew ?_ | refine blk_alloc ?_ _)); exact BK226.out) hb); have n2_ := Aside0.mk (below_step (by repeat (first | (with_reducible first | exact HB.out | apply below_alloc | apply pw_below_drewN | apply below_drew1 | refine below_set ?_ GE226.out) | exact HB.out)) hb); clear BK226; clear HB; have HO231 := n0_; have BK226 := n1_; have HB := n2_; clear n0_ n1_ n2_; clear hb ho26) | ((with_reducible refine gate_builtin (b := .append) (xs := #[.tmp 21, .tmp 22]) rfl ?_); at_builtin; refine Kd.R_append_rows (Kd.int .i64) (w0 := w) w.heap.size rfl (.tmp 21) (.tmp 22) 22 3 (.int .i64 0) 8 rfl Try.underlying22 info3 rfl (by decide) (by omega) v230 y229 l0 _ _ _ (fun _ => True) (fun _ => False) rfl rfl ?aO ?aR (fun _ _ h => h) (fun _ h => h.elim) ?aF ?aB ?aS ?aL ?_; (case aR => repeat (first | exact (Kd.C_below HR0.out HB.out) | (with_reducible refine Kd.C_alloc ?_ _) | (with_reducible refine Kd.C_drewN ?_ _) | (with_reducible refine Kd.C_drew ?_))); (case aB => exact (by repeat (first | (with_reducible first | exact HB.out | apply below_alloc | apply pw_below_drewN | apply below_drew1 | refine below_set ?_ GE226.out) | exact HB.out))); (case aF => exact (fun _ _ => trivial)); (case aO => exact (by (with_reducible repeat (first | apply Kd.R_alloc | apply Kd.R_drewN | apply Kd.R_drew)); exact HO231.out)); (case aS => exact (below_size (by repeat (first | (with_reducible first | exact HB.out | apply below_alloc | apply pw_below_drewN | apply below_drew1 | refine below_set ?_ GE226.out) | exact HB.out)))); (case aL => have := LMc16.out; omega); intro v233 w27 ho hb hg hat; rw [← Ny232.out] at ho; have n0_ := Aside0.mk (blk_grown (g := gb226) (o := .cells #[.slice A1_0 l1_0.length c1_0, .int .i64 a1_1, .int .i64 a1_2, .int .i64 a1_3, .int .i64 a1_4] 28 (0, 0)) (by (with_reducible repeat (first | refine blk_drewN ?_ _ | refine blk_drew ?_ | refine blk_alloc ?_ _)); exact BK226.out) hg (Kd.R_ne HO231.out BK226.out (by decide))); have n1_ := Aside0.mk (hb); have n2_ := Aside0.mk (ho); clear BK226; clear HB; clear HO231; have BK226 := n0_; have HB := n1_; have HO234 := n2_; clear n0_ n1_ n2_; clear ho hb hg hat; have hcz28_0 : w27.cell? ⟨gb226, 0, none⟩ = some (.slice A1_0 l1_0.length c1_0) := (blk_cell BK226.out 0).trans rfl; have hcz28_1 : w27.cell? ⟨gb226, 1, none⟩ = some (.int .i64 a1_1) := (blk_cell BK226.out 1).trans rfl; have hcz28_2 : w27.cell? ⟨gb226, 2, none⟩ = some (.int .i64 a1_2) := (blk_cell BK226.out 2).trans rfl; have hcz28_3 : w27.cell? ⟨gb226, 3, none⟩ = some (.int .i64 a1_3) := (blk_cell BK226.out 3).trans rfl; have hcz28_4 : w27.cell? ⟨gb226, 4, none⟩ = some (.int .i64 a1_4) := (blk_cell BK226.out 4).trans rfl; have hfz28_0 := blk_frozen BK226.out 0; have hfz28_1 := blk_frozen BK226.out 1; have hfz28_2 := blk_frozen BK226.out 2; have hfz28_3 := blk_frozen BK226.out 3; have hfz28_4 := blk_frozen BK226.out 4; obtain ⟨Ao29, co29, eo29⟩ := Kd.R_slice HO234.out; subst eo29) | ((with_reducible refine gate_callee (f := 81) rfl ?_); refine goesL_ (some 27) rfl rfl Try.func81 (by kernel_rfl) rfl #[.slice Ao29 y232.length co29, .agg #[.slice A1_0 l1_0.length c1_0, .int .i64 a1_1, .int .i64 a1_2, .int .i64 a1_3, .int .i64 a1_4], .slice A2 l2.length c2] rfl (by (try simp only [List.map_toArray, List.map_cons, List.map_nil]); first | done | rfl | (simp only [List.length_drop, List.length_take]; rfl)) ?_; (with_reducible refine (impl_putRefine.calls kj3 (fun k_ => some k_ = (.slice Ao29 y232.length co29 : Value).ownBlock) (.slice Ao29 y232.length co29) y232 _ _ l1_0 a1_1 a1_2 a1_3 a1_4 _ _ l2 false t236 w _ ?side1 ?side2 ?side3 ?side4 ?side5 ?side6 A17.out).mono ?_); (case side1 => repeat (first | (with_reducible first | exact HB.out | apply below_alloc | apply pw_below_drewN | apply below_drew1 | refine below_set ?_ GE226.out) | exact HB.out)); (case side2 => exact Kd.R_tight rfl HO234.out); (case side3 => exact Kd.C_kept_came (Kd.heap_int .i64) HR1_0.out (by repeat (first | (with_reducible first | exact HB.out | apply below_alloc | apply pw_below_drewN | apply below_drew1 | refine below_set ?_ GE226.out) | exact HB.out)) (fun k_ hs_ => (fun e_ => Kd.R_base HO234.out k_ e_.symm) hs_)); (case side4 => exact HC1_0.out); (case side5 => exact Kd.C_kept_came (Kd.heap_int .i64) HR2.out (by repeat (first | (with_reducible first | exact HB.out | apply below_alloc | apply pw_below_drewN | apply below_drew1 | refine below_set ?_ GE226.out) | exact HB.out)) (fun k_ hs_ => (fun e_ => Kd.R_base HO234.out k_ e_.symm) hs_)); (case side6 => exact HC2.out); rintro e w30 ⟨rfl, hy0, hb, hkp⟩; refine ⟨_, rfl, ?_⟩; have n0_ := Aside0.mk (blk_kept (by (with_reducible repeat (first | refine blk_drewN ?_ _ | refine blk_drew ?_ | refine blk_alloc ?_ _)); exact BK226.out) hkp (fun hs_ => (fun e_ => (Kd.R_ne HO234.out BK226.out (by decide)) e_) hs_)); have n1_ := Aside0.mk (Kd.R_reok rfl hy0 (fun k_ e_ => HO234.out.1 k_ e_)); have n2_ := Aside0.mk (hb); clear BK226; clear HO234; clear HB; have BK226 := n0_; have HO234 := n1_; have HB := n2_; clear n0_ n1_ n2_; (try clear hb); (try clear hkp); (try clear hy0)))
            go_ret
            exact ⟨_, by first | rfl | (simp [errW_none, errW_some] <;> rfl) | (simp [*, errW_none, errW_some] <;> rfl), by first | exact Kd.R_nil _ _ _ _ _ | exact Kd.N_nil _ _ _ _ _ | exact Kd.V_nil _ _ _ _ _ | exact Kd.Q_nil _ _ _ _ _ | exact Kd.S_nil _ _ _ _ _, by repeat (first | (with_reducible first | exact HB.out | apply below_alloc | apply pw_below_drewN | apply below_drew1 | refine below_set ?_ GE226.out) | exact HB.out)⟩
        · rw [if_neg c16] at H
          exact absurd H (by simp)

theorem iPutRefine_f (b c : List Int) (f t h l : Int) (list : List Int) (hlen : list.length ≤ 1048576) : Ev (fun k => impl_PutRefine.f k b c f t h l list) (prI b f t h l list) := by
  have no : ¬ (numsB b (-16383) 16383 = true ∧ passB f t h l = true ∧ h ≠ 0) → Ev (fun k => impl_PutRefine.j0 k b list true c f t h l) (prI b f t h l list) := fun hn => by
    unfold prI
    rw [if_neg (fun h => hn ⟨h.1, h.2.1, h.2.2.1⟩)]
    exact Ev.step (fun k => by rw [impl_PutRefine.j0]) (evPos rfl (Ev.now _))
  unfold impl_PutRefine.f
  refine evBind (isLevels_f b) (evIf (fun hl => ?_) (fun hl => no (fun h => hl h.1)))
  refine evBind (evConst (isPass_f c f t h l)) (evIf (fun hp => ?_) (fun hp => no (fun h => hp h.2.1)))
  by_cases hh : h = 0
  · rw [show (h == 0) = true from by simp [hh]]
    exact no (fun h => h.2.2 hh)
  · rw [show (h == 0) = false from by simp [hh]]
    refine Ev.step (fun k => by rw [impl_PutRefine.j0]) (evNeg (by simp) ?_)
    have hbl := nums_len hl
    simp only [Option.bind_some, List.nil_append]
    obtain ⟨r, hr, hQ⟩ := iPRef_f b list c f t h l hl hp hlen
    unfold prI
    by_cases ha : (list.length : Int) = t - f + 1 ∧ okAll b list f l = true
    · rw [if_pos ha] at hQ
      subst hQ
      rw [if_pos ⟨hl, hp, hh, ha.1, ha.2⟩]
      exact evPos (by simp; omega) (evBind hr (evPos rfl (Ev.now _)))
    · rw [if_neg ha] at hQ
      rw [if_neg (fun h => ha h.2.2.2)]
      exact evPos (by simp; omega) (evBind hr (evNeg (by rw [hQ]; simp) (Ev.now _)))

end Go.Proofs.Ythajjjpblkhmmaa.CR
