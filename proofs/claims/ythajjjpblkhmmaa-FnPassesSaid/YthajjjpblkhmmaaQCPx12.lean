/- Functions that a law of this seat reaches: written by a program of this session (wip/xprint.py), and by hand. -/
import Derived.Test.YthajjjpblkhmmaaQMac
import Derived.Test.YthajjjpblkhmmaaQCPx0
import Derived.Test.YthajjjpblkhmmaaQCPx1
import Derived.Test.YthajjjpblkhmmaaQCPx2
import Derived.Test.YthajjjpblkhmmaaQCPx3
import Derived.Test.YthajjjpblkhmmaaQCPx4
import Derived.Test.YthajjjpblkhmmaaQCPx10
import Derived.Test.YthajjjpblkhmmaaQCPx11
namespace Go.Proofs.Ythajjjpblkhmmaa.CP
open Go.RowKit Go.Proofs.Ythajjjpblkhmmaa.B Go.Proofs.YthajjjpblkhmmaaW.PrintWords Go.Proofs.YthajjjpblkhmmaaW.PrintLast Go.Proofs.YthajjjpblkhmmaaW.PrintMore
attribute [local go_sem] max2_int min2_int max_two min_two max_three min_three max_four min_four   -- for this text's walks alone
set_option linter.unusedVariables false
set_option linter.unusedSimpArgs false

theorem newV_i {v n low : Int} (hv : -16383 ≤ v ∧ v ≤ 16383) (hn : -1 ≤ n ∧ n ≤ 1) (h0 : 0 ≤ low) (h1 : low ≤ 13) :
    (v < 0 → wrap64 (v + shl .i64 (wrap64 (-n)) low) = newV v n low) ∧ (¬ v < 0 → wrap64 (v + shl .i64 n low) = newV v n low) := by
  obtain ⟨p1, p2⟩ := pow13 low h0 h1
  have e : ∀ x : Int, -1 ≤ x → x ≤ 1 → shl .i64 x low = x * 2 ^ low.toNat := fun x x0 x1 => by
    unfold shl
    rw [Nat.min_eq_left (by simp [IntKind.bits]; omega), i64_w]
    generalize (2 : Int) ^ low.toNat = P at p1 p2 ⊢
    have h : x = -1 ∨ x = 0 ∨ x = 1 := by omega
    rcases h with rfl | rfl | rfl <;> exact w64 (by omega) (by omega)
  rw [w64 (x := -n) (by omega) (by omega), e (-n) (by omega) (by omega), e n hn.1 hn.2]
  unfold newV
  generalize (2 : Int) ^ low.toNat = P at p1 p2 ⊢
  have h : n = -1 ∨ n = 0 ∨ n = 1 := by omega
  refine ⟨fun hc => ?_, fun hc => ?_⟩
  · rw [if_pos hc]
    rcases h with rfl | rfl | rfl <;> exact w64 (by omega) (by omega)
  · rw [if_neg hc]
    rcases h with rfl | rfl | rfl <;> exact w64 (by omega) (by omega)
theorem pr_levels (b list : List Int) (f low : Int) (hb : numsB b (-16383) 16383 = true) (h0 : 0 ≤ f) (hl : f + list.length ≤ 64) (ha : ∀ j : Nat, j < list.length → bitAt2 b list f j = true) : numsB (mapR (prF b list f low list.length)) (-16383) 16383 = okAll b list f low := by
  have hlen := nums_len hb
  have hbr : ∀ p : Nat, p < 64 → -16383 ≤ rd b (p : Int) ∧ rd b (p : Int) ≤ 16383 := fun p hp => by
    rw [rd_nat (show p < b.length by omega)]
    simp only [numsB, Bool.and_eq_true, allR] at hb
    exact inR_iff.1 (List.all_eq_true.1 hb.2 _ (List.getElem_mem _))
  rw [Bool.eq_iff_iff]
  refine ⟨fun h => okAll_of (fun j hj => ?_), fun h => mapR_all (fun p hp => ?_)⟩
  · have hj2 := bitB_iff.1 (ha j hj)
    have hr := zz_rd (f.toNat + j) (by omega)
    obtain ⟨p, hp⟩ : ∃ p : Nat, rd zzL ((f.toNat + j : Nat) : Int) = p := ⟨(rd zzL ((f.toNat + j : Nat) : Int)).toNat, by omega⟩
    have hz := zz_zi (j := f.toNat + j) (by omega)
    rw [hp, Int.toNat_natCast] at hz
    have hm : -16383 ≤ rd (mapR (prF b list f low list.length)) (p : Int) ∧ rd (mapR (prF b list f low list.length)) (p : Int) ≤ 16383 := by
      rw [hp] at hr
      rw [rd_nat (show p < _ by rw [mapR_length]; omega)]
      simp only [numsB, Bool.and_eq_true, allR] at h
      exact inR_iff.1 (List.all_eq_true.1 h.2 _ (List.getElem_mem _))
    rw [hp] at hr
    rw [mapR_rd _ (by omega)] at hm
    unfold prF at hm
    rw [if_pos (by rw [hz]; omega), hz, show ((f.toNat + j : Nat) : Int) - f = (j : Int) from by omega] at hm
    have et : rd (toZ b) (f + j) = rd b (p : Int) := by rw [show f + (j : Int) = ((f.toNat + j : Nat) : Int) from by omega, toZ_rd b _ (by omega), hp]
    refine okB_iff.2 ?_
    rw [et] at hj2 ⊢
    exact ⟨hj2.1, hj2.2, hm⟩
  · unfold prF
    obtain ⟨z1, z2⟩ := zi_all hp
    by_cases hh : f ≤ (zi p : Int) ∧ (zi p : Int) < f + list.length
    · rw [if_pos hh]
      have := List.all_eq_true.1 h (zi p - f.toNat) (List.mem_range.2 (by omega))
      have h5 := (okB_iff.1 this).2.2
      rw [show f + ((zi p - f.toNat : Nat) : Int) = (zi p : Int) from by omega, toZ_rd b _ z1, z2, show ((zi p - f.toNat : Nat) : Int) = (zi p : Int) - f from by omega] at h5
      exact h5
    · rw [if_neg hh]
      exact hbr p hp
theorem iRefP_l0 (b list c : List Int) (hb : numsB b (-16383) 16383 = true) (f t h low : Int) (h0 : 0 ≤ f) (h1 : f ≤ t) (h2 : t ≤ 63) (h3 : 0 ≤ low) (h4 : low ≤ 13) (hl : (list.length : Int) = t - f + 1) :
    ∀ (d m : Nat), m + d = list.length → (∀ j : Nat, j < m → bitAt2 b list f j = true) →
      EvP (fun k => impl_putRefine.l0 k (mapR (prF b list f low m)) zzL list (list.length : Int) m c f t h low) (fun r => if okAll b list f low = true then r = (true, mapR (prF b list f low list.length)) else r.1 = false) := by
  intro d
  induction d with
  | zero =>
    intro m hm hd
    obtain rfl : m = list.length := by omega
    refine evpStep (fun k => by rw [impl_putRefine.l0]) (evpNeg (by omega) ?_)
    refine evpBind (Q := fun q => q = okAll b list f low) (evpOf (isLevels_f _) (pr_levels b list f low hb h0 (by omega) hd)) (fun q hq => ?_)
    subst hq
    by_cases ha : okAll b list f low = true
    · exact evpNow rfl (by simp [ha])
    · exact evpNow rfl (by simp [ha])
  | succ d ih =>
    intro m hm hd
    have hml : m < list.length := by omega
    obtain ⟨j, hj⟩ : ∃ j : Nat, f + m = j := ⟨(f + m).toNat, by omega⟩
    have hz := zz_rd j (by omega)
    have hbl := nums_len hb
    have ea := pr_at b list f low m j hj (by omega)
    have et : rd (toZ b) (f + m) = rd b (rd zzL (j : Int)) := by rw [hj, toZ_rd b _ (by omega)]
    have hv : -16383 ≤ rd b (rd zzL (j : Int)) ∧ rd b (rd zzL (j : Int)) ≤ 16383 := by
      obtain ⟨p, hp⟩ : ∃ p : Nat, rd zzL (j : Int) = p := ⟨(rd zzL (j : Int)).toNat, by omega⟩
      rw [hp] at hz ⊢
      rw [rd_nat (show p < b.length by omega)]
      simp only [numsB, Bool.and_eq_true, allR] at hb
      exact inR_iff.1 (List.all_eq_true.1 hb.2 _ (List.getElem_mem _))
    have no : bitAt2 b list f m = false → EvP (fun _ => (some (false, mapR (prF b list f low m)))) (fun r => if okAll b list f low = true then r = (true, mapR (prF b list f low list.length)) else r.1 = false) := fun hno => by
      have : okAt b list f low m = false := Bool.eq_false_iff.2 fun hk => by
        have h5 := okB_iff.1 hk
        have h6 : bitAt2 b list f m = true := bitB_iff.2 ⟨h5.1, h5.2.1⟩
        rw [hno] at h6
        cases h6
      exact evpNow rfl (by simp [okAll_no hml this])
    refine evpStep (fun k => by rw [impl_putRefine.l0]) ?_
    rw [hj, w64n (n := j) (by omega)]
    refine evpPos (by omega) (evpPos (by omega) (evpPos (by omega) (evpPos (by omega) (evpPos (by rw [zzL_length]; omega) (evpPos hz.1 (evpPos (by rw [mapR_length]; omega) ?_))))))
    rw [ea]
    refine evpBind (Q := fun q => q = inR (rd list (m : Int)) (-1) 1) (evpNow (within_f _ _ _) rfl) (fun q hq => ?_)
    subst hq
    refine evpIf (fun hn => ?_) (fun hn => no ?_)
    · have hn2 := inR_iff.1 hn
      obtain ⟨e1, e2⟩ := newV_i (v := rd b (rd zzL (j : Int))) (n := rd list (m : Int)) (low := low) hv hn2 h3 h4
      have go : (0 ≤ rd list (m : Int) ∨ rd b (rd zzL (j : Int)) = 0) → EvP (fun k => impl_putRefine.l0 k ((mapR (prF b list f low m)).set (rd zzL (j : Int)).toNat (newV (rd b (rd zzL (j : Int))) (rd list (m : Int)) low)) zzL list (list.length : Int) (wrap64 ((m : Int) + 1)) c f t h low) (fun r => if okAll b list f low = true then r = (true, mapR (prF b list f low list.length)) else r.1 = false) := fun hor => by
        rw [pr_set b list f low m j hj (by omega), show (m : Int) + 1 = ((m + 1 : Nat) : Int) from by omega, w64n (by omega)]
        refine ih (m + 1) (by omega) (fun i hi => ?_)
        by_cases e : i = m
        · rw [e]
          refine bitB_iff.2 ⟨hn2, ?_⟩
          rw [et]
          exact hor
        · exact hd i (by omega)
      have two : (0 ≤ rd list (m : Int) ∨ rd b (rd zzL (j : Int)) = 0) → EvP (fun k => if (rd b (rd zzL (j : Int))) < 0 then (if 0 ≤ low then (impl_putRefine.l0 k ((mapR (prF b list f low m)).set (rd zzL (j : Int)).toNat (wrap64 (rd b (rd zzL (j : Int)) + shl .i64 (wrap64 (-(rd list (m : Int)))) low))) zzL list (list.length : Int) (wrap64 ((m : Int) + 1)) c f t h low) else none) else (if 0 ≤ low then (impl_putRefine.l0 k ((mapR (prF b list f low m)).set (rd zzL (j : Int)).toNat (wrap64 (rd b (rd zzL (j : Int)) + shl .i64 (rd list (m : Int)) low))) zzL list (list.length : Int) (wrap64 ((m : Int) + 1)) c f t h low) else none)) (fun r => if okAll b list f low = true then r = (true, mapR (prF b list f low list.length)) else r.1 = false) := fun hor => by
        refine evpIf (fun hc => evpPos h3 ?_) (fun hc => evpPos h3 ?_)
        · rw [e1 hc]
          exact go hor
        · rw [e2 hc]
          exact go hor
      refine evpIf (fun hneg => evpIf (fun h00 => two (.inr h00)) (fun h00 => no ?_)) (fun hneg => two (.inl (by omega)))
      refine Bool.eq_false_iff.2 fun hk => ?_
      have := (bitB_iff.1 hk).2
      rw [et] at this
      omega
    · refine Bool.eq_false_iff.2 fun hk => hn ?_
      exact inR_iff.2 (bitB_iff.1 hk).1
theorem iPRef_f (b list c : List Int) (f t h l : Int) (hb : numsB b (-16383) 16383 = true) (hp : passB f t h l = true) (hlen : list.length ≤ 1048576) :
    EvP (fun k => impl_putRefine.f k b c f t h l list) (fun r => if (list.length : Int) = t - f + 1 ∧ okAll b list f l = true then r = (true, mapR (prF b list f l list.length)) else r.1 = false) := by
  obtain ⟨p1, p2, p3, p4, p5, _⟩ := pass_bounds hp
  unfold impl_putRefine.f
  refine evpBind (Q := fun z => z = zzL) (evpOf izz_f rfl) (fun z hz => ?_)
  subst hz
  rw [w64 (x := t - f) (by omega) (by omega), w64 (by omega) (by omega)]
  refine evpIf (fun he => ?_) (fun he => evpNow rfl (by rw [if_neg (fun h => he h.1)]))
  have := iRefP_l0 b list c hb f t h l p1 p2 p3 p4 p5 he list.length 0 (by omega) (fun j hj => by omega)
  rw [mapR_congr (f := fun p => rd b (p : Int)) (fun p _ => by unfold prF; rw [if_neg (by omega)]), mapR_self (nums_len hb)] at this
  refine evpMono this (fun r hr => ?_)
  by_cases ha : okAll b list f l = true
  · rw [if_pos ha] at hr
    rw [if_pos ⟨he, ha⟩]
    exact hr
  · rw [if_neg ha] at hr
    rw [if_neg (fun h => ha h.2)]
    exact hr

/-! ### impl_PutRefine: function 30 -/
def impl_PutRefine.j0 : Nat → List Int → List Int → Bool → List Int → Int → Int → Int → Int → Option (List Int)
  | 0, _, _, _, _, _, _, _, _ => none
  | k + 1, x0, x2, x20, x324000, x324001, x324002, x324003, x324004 => if x20 = true then (some ([] : List Int)) else ((some (([] : List Int) : List Int)).bind fun y326 => (if y326.length + x0.length < 17592186044416 then ((impl_putRefine.f k (y326 ++ x0) x324000 x324001 x324002 x324003 x324004 x2).bind fun bt332 => (if bt332.1 = true then (some bt332.2) else (some ([] : List Int)))) else (none)))
def impl_PutRefine.f (k : Nat) (l0 : List Int) (l1_0 : List Int) (a1_1 : Int) (a1_2 : Int) (a1_3 : Int) (a1_4 : Int) (l2 : List Int) : Option (List Int) := (impl_isLevels.f k l0).bind fun t324 => (if t324 = true then ((impl_Scan_isPass.f l1_0 a1_1 a1_2 a1_3 a1_4).bind fun t325 => (if t325 = true then (impl_PutRefine.j0 k l0 l2 (a1_3 == 0) l1_0 a1_1 a1_2 a1_3 a1_4) else (impl_PutRefine.j0 k l0 l2 true l1_0 a1_1 a1_2 a1_3 a1_4))) else (impl_PutRefine.j0 k l0 l2 true l1_0 a1_1 a1_2 a1_3 a1_4))
set_option maxHeartbeats 8000000 in
set_option maxRecDepth 100000 in
theorem impl_PutRefine.calls (k : Nat) (A0 : Option Addr) (c0 : Nat) (l0 : List Int) (A1_0 : Option Addr) (c1_0 : Nat) (l1_0 : List Int) (a1_1 : Int) (a1_2 : Int) (a1_3 : Int) (a1_4 : Int) (A2 : Option Addr) (c2 : Nat) (l2 : List Int) (r : List Int) (w : World) (hr0 : Kd.C (Kd.int .i64) w A0 l0.length l0) (hc0 : l0.length ≤ c0) (hr1_0 : Kd.C (Kd.int .i64) w A1_0 l1_0.length l1_0) (hc1_0 : l1_0.length ≤ c1_0) (hr2 : Kd.C (Kd.int .i64) w A2 l2.length l2) (hc2 : l2.length ≤ c2) (h : impl_PutRefine.f k l0 l1_0 a1_1 a1_2 a1_3 a1_4 l2 = some r) :
  Calls Try.prog 30 #[.slice A0 l0.length c0, .agg #[.slice A1_0 l1_0.length c1_0, .int .i64 a1_1, .int .i64 a1_2, .int .i64 a1_3, .int .i64 a1_4], .slice A2 l2.length c2] w fun e w' => ∃ v0_ : Value, e = .returned (v0_) ∧ Kd.R (Kd.int .i64) 3 w' w.heap.size (fun _ => True) v0_ r ∧ Below w.heap.size w w' := by
 have hu28 := Try.underlying28
 have HR0 := aM hr0
 have HC0 := aM hc0
 clear hr0 hc0
 have HR1_0 := aM hr1_0
 have HC1_0 := aM hc1_0
 clear hr1_0 hc1_0
 have HR2 := aM hr2
 have HC2 := aM hc2
 clear hr2 hc2
 have HB := aM (Below.refl w.heap.size w)
 have H : ((impl_isLevels.f k l0).bind fun t324 => (if t324 = true then ((impl_Scan_isPass.f l1_0 a1_1 a1_2 a1_3 a1_4).bind fun t325 => (if t325 = true then (impl_PutRefine.j0 k l0 l2 (a1_3 == 0) l1_0 a1_1 a1_2 a1_3 a1_4) else (impl_PutRefine.j0 k l0 l2 true l1_0 a1_1 a1_2 a1_3 a1_4))) else (impl_PutRefine.j0 k l0 l2 true l1_0 a1_1 a1_2 a1_3 a1_4))) = some r := h
 clear h
 have HC4 := aM H
 clear H
 go_enter Try.func30, Try.ntmps30
 go_upto_region 1 with (first | ((with_reducible refine gate_dst (N := 4) rfl ?_); refine box_event ?hg (N := 4) ?hd (cs := #[.slice A1_0 l1_0.length c1_0, .int .i64 a1_1, .int .i64 a1_2, .int .i64 a1_3, .int .i64 a1_4]) (t := 28) ?hr ?_; (case hd => rfl); (case hg => rfl); (case hr => first | (go_simp; done) | (go_simp; rfl)); intro gb323 hg w5 hbox hb; have BK323 := aM hbox; have GW323 := aM (zG hg : w.heap.size ≤ gb323); have GE323 := aM (zG hg : w.heap.size ≤ gb323); replace HB := cH HB hb; clear hb hbox hg))
 (try simp only [Act.put, List.setIfInBounds_toArray, List.set_cons_zero, List.set_cons_succ])
 go_cut [20] (fun v20 wc => ∃ (kq : Nat) (x20_3 : Bool), v20 = .bool x20_3 ∧ Aside0 (impl_PutRefine.j0 kq l0 l2 x20_3 l1_0 a1_1 a1_2 a1_3 a1_4 = some r) ∧ Aside0 (kq ≤ k) ∧ Aside0 (wc.heap[gb323]? = some (.cells #[(.slice A1_0 l1_0.length c1_0), .int .i64 a1_1, .int .i64 a1_2, .int .i64 a1_3, .int .i64 a1_4] 28 (0, 0))) ∧ Aside0 (Below w.heap.size w wc))
 case first =>
  have H := HC4.out
  clear HC4
  obtain ⟨t324, A6, H⟩ := oH H
  by_cases c7 : t324 = true
  ·subst c7
   replace H := iT H
   obtain ⟨t325, A8, H⟩ := oH H
   by_cases c9 : t325 = true
   ·subst c9
    replace H := iT H
    have H' := aM H
    clear H
    go_wp2_with (first | (go_at_call 73; (with_reducible refine (impl_isLevels.calls k _ _ l0 true _ ?side1 ?side2 A6.out).mono ?_); (case side1 => exact zC (Kd.C_below HR0.out HB.out)); (case side2 => exact HC0.out); rintro e w' ⟨rfl, ⟨nd, rfl⟩⟩; obtain ⟨hcz10_0, hcz10_1, hcz10_2, hcz10_3, hcz10_4⟩ := kk5 BK323; obtain ⟨hfz10_0, hfz10_1, hfz10_2, hfz10_3, hfz10_4⟩ := kg5 BK323) | (go_at_call 74; (with_reducible refine (impl_Scan_isPass.calls _ _ l1_0 a1_1 a1_2 a1_3 a1_4 true _ ?side1 ?side2 A8.out).mono ?_); (case side1 => exact zC (Kd.C_below HR1_0.out zH)); (case side2 => exact HC1_0.out); rintro e w11 ⟨rfl, hb⟩; replace BK323 := cB BK323 hb; replace HB := cH HB hb; (try clear hb); obtain ⟨hcz12_0, hcz12_1, hcz12_2, hcz12_3, hcz12_4⟩ := kk5 BK323; obtain ⟨hfz12_0, hfz12_1, hfz12_2, hfz12_3, hfz12_4⟩ := kg5 BK323))
    go_meet
    case rel => exact ⟨_, ((a1_3 == 0)), zS, H', zO, ⟨zK BK323⟩, ⟨zH⟩⟩
   ·replace c9 := Bool.eq_false_iff.mpr c9
    subst c9
    replace H := iF H
    have H' := aM H
    clear H
    go_wp2_with (first | (go_at_call 73; (with_reducible refine (impl_isLevels.calls k _ _ l0 true _ ?side1 ?side2 A6.out).mono ?_); (case side1 => exact zC (Kd.C_below HR0.out HB.out)); (case side2 => exact HC0.out); rintro e w' ⟨rfl, ⟨nd, rfl⟩⟩; obtain ⟨hcz13_0, hcz13_1, hcz13_2, hcz13_3, hcz13_4⟩ := kk5 BK323; obtain ⟨hfz13_0, hfz13_1, hfz13_2, hfz13_3, hfz13_4⟩ := kg5 BK323) | (go_at_call 74; (with_reducible refine (impl_Scan_isPass.calls _ _ l1_0 a1_1 a1_2 a1_3 a1_4 false _ ?side1 ?side2 A8.out).mono ?_); (case side1 => exact zC (Kd.C_below HR1_0.out zH)); (case side2 => exact HC1_0.out); rintro e w14 ⟨rfl, hb⟩; replace BK323 := cB BK323 hb; replace HB := cH HB hb; (try clear hb)))
    go_meet
    case rel => exact ⟨_, (true), zS, H', zO, ⟨zK BK323⟩, ⟨zH⟩⟩
  ·replace c7 := Bool.eq_false_iff.mpr c7
   subst c7
   replace H := iF H
   have H' := aM H
   clear H
   go_wp2_with (first | (go_at_call 73; (with_reducible refine (impl_isLevels.calls k _ _ l0 false _ ?side1 ?side2 A6.out).mono ?_); (case side1 => exact zC (Kd.C_below HR0.out HB.out)); (case side2 => exact HC0.out); rintro e w' ⟨rfl, ⟨nd, rfl⟩⟩))
   go_meet
   case rel => exact ⟨_, (true), zS, H', zO, ⟨zK BK323⟩, ⟨zH⟩⟩
 case rest =>
  clear HC4
  try clear c2
  obtain ⟨kq, x20_3, rfl, HA, HJ3, BK323, HB⟩ := hcut
  cases kq with
  | zero => exact absurd HA.out (by simp [impl_PutRefine.j0])
  | succ kj3 =>
   have H := HA.out
   clear HA
   simp only [impl_PutRefine.j0] at H
   by_cases c15 : x20_3 = true
   ·subst c15
    replace H := iT H
    obtain rfl := Option.some.inj H
    go_wp2
    go_ret
    exact ⟨_, zR, by first | exact Kd.R_nil _ _ _ _ _ | exact Kd.N_nil _ _ _ _ _ | exact Kd.V_nil _ _ _ _ _ | exact Kd.Q_nil _ _ _ _ _ | exact Kd.S_nil _ _ _ _ _, zH⟩
   ·replace c15 := Bool.eq_false_iff.mpr c15
    subst c15
    replace H := iF H
    obtain ⟨y326, hy326⟩ : ∃ y_ : List Int, y_ = (([] : List Int)) := ⟨_, rfl⟩
    replace H : (if y326.length + l0.length < 17592186044416 then ((impl_putRefine.f kj3 (y326 ++ l0) l1_0 a1_1 a1_2 a1_3 a1_4 l2).bind fun bt332 => (if bt332.1 = true then (some bt332.2) else (some ([] : List Int)))) else (none)) = some r := by first | (rw [hy326]; with_reducible exact H) | (have H2_ := (Option.bind_some _ _).symm.trans H; rw [hy326]; with_reducible exact H2_) | (have H2_ := (Option.bind_some _ _).symm.trans H; with_reducible exact H2_) | with_reducible exact H | (rw [hy326]; exact H) | exact H
    have Ny326 := aM hy326
    clear hy326
    by_cases c16 : y326.length + l0.length < 17592186044416
    ·rw [if_pos c16] at H
     have LMc16 := aM c16
     clear c16
     obtain ⟨y329, hy329⟩ : ∃ y_ : List Int, y_ = (y326 ++ l0) := ⟨_, rfl⟩
     replace H : ((impl_putRefine.f kj3 y329 l1_0 a1_1 a1_2 a1_3 a1_4 l2).bind fun bt332 => (if bt332.1 = true then (some bt332.2) else (some ([] : List Int)))) = some r := by first | (rw [hy329]; with_reducible exact H) | (have H2_ := (Option.bind_some _ _).symm.trans H; rw [hy329]; with_reducible exact H2_) | (have H2_ := (Option.bind_some _ _).symm.trans H; with_reducible exact H2_) | with_reducible exact H | (rw [hy329]; exact H) | exact H
     have Ny329 := aM hy329
     clear hy329
     replace H := oB H
     obtain ⟨⟨t332, t333⟩, A170, H⟩ := H
     replace H : (if t332 = true then (some t333) else (some ([] : List Int))) = some r := H
     have A17 := aM A170
     clear A170
     by_cases c18 : t332 = true
     ·subst c18
      replace H := iT H
      obtain rfl := Option.some.inj H
      go_wp2_with (first | ((with_reducible refine gate_dst (N := 21) rfl ?_); refine Kd.R_lit (Kd.int .i64) _ 3 ?hg (N := 21) ?hd (xs := ([] : List Int)) (inner := []) (ok := fun _ => True) (okp := fun _ => True) ?hr ?hp (fun _ hk => hk) trivial (Below.refl _ _) (Nat.le_refl _) (by simp) ?_; (case hd => rfl); (case hg => rfl); (case hr => first | (go_simp; done) | (go_simp; rfl)); (case hp => exact (Reps.none _ _)); intro v327 w19 ho20 hb hg_ hnew_; clear hg_ hnew_; (first | rw [← Ny326.out] at ho20 | (simp only [Int.reduceToNat] at ho20; rw [← Ny326.out] at ho20)); have HO328 := aM (Kd.R_lower ho20 (below_size zH)); replace BK323 := cB BK323 hb; replace HB := cH HB hb; clear hb ho20) | ((with_reducible refine gate_builtin (b := .append) (xs := #[.tmp 21, .tmp 22]) rfl ?_); at_builtin; refine Kd.R_append_rows (Kd.int .i64) (w0 := w) w.heap.size rfl (.tmp 21) (.tmp 22) 22 3 (.int .i64 0) 8 rfl Try.underlying22 info3 rfl (by decide) (by omega) v327 y326 l0 _ _ _ (fun _ => True) (fun _ => False) rfl rfl ?aO ?aR (fun _ _ h => h) (fun _ h => h.elim) ?aF ?aB ?aS ?aL ?_; (case aR => exact zC (Kd.C_below HR0.out HB.out)); (case aB => exact zH); (case aF => exact (fun _ _ => trivial)); (case aO => exact (by (with_reducible repeat (first | apply Kd.R_alloc | apply Kd.R_drewN | apply Kd.R_drew)); exact HO328.out)); (case aS => exact (below_size zH)); (case aL => have := LMc16.out; omega); intro v330 w21 ho hb hg hat; rw [← Ny329.out] at ho; replace BK323 := aM (blk_grown (g := gb323) (o := .cells #[.slice A1_0 l1_0.length c1_0, .int .i64 a1_1, .int .i64 a1_2, .int .i64 a1_3, .int .i64 a1_4] 28 (0, 0)) (zK BK323) hg (Kd.R_ne HO328.out BK323.out (by decide))); replace HB := aM (hb); have HO331 := aM (ho); clear HO328; clear ho hb hg hat; obtain ⟨hcz22_0, hcz22_1, hcz22_2, hcz22_3, hcz22_4⟩ := kk5 BK323; obtain ⟨hfz22_0, hfz22_1, hfz22_2, hfz22_3, hfz22_4⟩ := kg5 BK323; obtain ⟨Ao23, co23, eo23⟩ := Kd.R_slice HO331.out; subst eo23) | (go_at_call 81; (with_reducible refine (impl_putRefine.calls kj3 (fun k_ => some k_ = (.slice Ao23 y329.length co23 : Value).ownBlock) (.slice Ao23 y329.length co23) y329 _ _ l1_0 a1_1 a1_2 a1_3 a1_4 _ _ l2 true t333 w _ ?side1 ?side2 ?side3 ?side4 ?side5 ?side6 A17.out).mono ?_); (case side1 => repeat (first | (with_reducible first | exact HB.out | apply bA | apply bN | apply b1 | refine bS ?_ GE323.out) | exact HB.out)); (case side2 => exact Kd.R_tight rfl HO331.out); (case side3 => exact Kd.C_kept_came (Kd.heap_int .i64) HR1_0.out zH (fun k_ hs_ => (fun e_ => Kd.R_base HO331.out k_ e_.symm) hs_)); (case side4 => exact HC1_0.out); (case side5 => exact Kd.C_kept_came (Kd.heap_int .i64) HR2.out zH (fun k_ hs_ => (fun e_ => Kd.R_base HO331.out k_ e_.symm) hs_)); (case side6 => exact HC2.out); rintro e w24 ⟨rfl, hy0, hb, hkp⟩; replace BK323 := aM (blk_kept (zK BK323) hkp (fun hs_ => (fun e_ => (Kd.R_ne HO331.out BK323.out (by decide)) e_) hs_)); replace HO331 := aM (Kd.R_reok rfl hy0 (fun k_ e_ => HO331.out.1 k_ e_)); replace HB := aM (hb); (try clear hb); (try clear hkp); (try clear hy0)))
      go_ret
      exact ⟨_, zR, by (with_reducible repeat (first | apply Kd.R_alloc | apply Kd.R_drewN | apply Kd.R_drew)); exact HO331.out, zH⟩
     ·replace c18 := Bool.eq_false_iff.mpr c18
      subst c18
      replace H := iF H
      obtain rfl := Option.some.inj H
      go_wp2_with (first | ((with_reducible refine gate_dst (N := 21) rfl ?_); refine Kd.R_lit (Kd.int .i64) _ 3 ?hg (N := 21) ?hd (xs := ([] : List Int)) (inner := []) (ok := fun _ => True) (okp := fun _ => True) ?hr ?hp (fun _ hk => hk) trivial (Below.refl _ _) (Nat.le_refl _) (by simp) ?_; (case hd => rfl); (case hg => rfl); (case hr => first | (go_simp; done) | (go_simp; rfl)); (case hp => exact (Reps.none _ _)); intro v327 w25 ho26 hb hg_ hnew_; clear hg_ hnew_; (first | rw [← Ny326.out] at ho26 | (simp only [Int.reduceToNat] at ho26; rw [← Ny326.out] at ho26)); have HO328 := aM (Kd.R_lower ho26 (below_size zH)); replace BK323 := cB BK323 hb; replace HB := cH HB hb; clear hb ho26) | ((with_reducible refine gate_builtin (b := .append) (xs := #[.tmp 21, .tmp 22]) rfl ?_); at_builtin; refine Kd.R_append_rows (Kd.int .i64) (w0 := w) w.heap.size rfl (.tmp 21) (.tmp 22) 22 3 (.int .i64 0) 8 rfl Try.underlying22 info3 rfl (by decide) (by omega) v327 y326 l0 _ _ _ (fun _ => True) (fun _ => False) rfl rfl ?aO ?aR (fun _ _ h => h) (fun _ h => h.elim) ?aF ?aB ?aS ?aL ?_; (case aR => exact zC (Kd.C_below HR0.out HB.out)); (case aB => exact zH); (case aF => exact (fun _ _ => trivial)); (case aO => exact (by (with_reducible repeat (first | apply Kd.R_alloc | apply Kd.R_drewN | apply Kd.R_drew)); exact HO328.out)); (case aS => exact (below_size zH)); (case aL => have := LMc16.out; omega); intro v330 w27 ho hb hg hat; rw [← Ny329.out] at ho; replace BK323 := aM (blk_grown (g := gb323) (o := .cells #[.slice A1_0 l1_0.length c1_0, .int .i64 a1_1, .int .i64 a1_2, .int .i64 a1_3, .int .i64 a1_4] 28 (0, 0)) (zK BK323) hg (Kd.R_ne HO328.out BK323.out (by decide))); replace HB := aM (hb); have HO331 := aM (ho); clear HO328; clear ho hb hg hat; obtain ⟨hcz28_0, hcz28_1, hcz28_2, hcz28_3, hcz28_4⟩ := kk5 BK323; obtain ⟨hfz28_0, hfz28_1, hfz28_2, hfz28_3, hfz28_4⟩ := kg5 BK323; obtain ⟨Ao29, co29, eo29⟩ := Kd.R_slice HO331.out; subst eo29) | (go_at_call 81; (with_reducible refine (impl_putRefine.calls kj3 (fun k_ => some k_ = (.slice Ao29 y329.length co29 : Value).ownBlock) (.slice Ao29 y329.length co29) y329 _ _ l1_0 a1_1 a1_2 a1_3 a1_4 _ _ l2 false t333 w _ ?side1 ?side2 ?side3 ?side4 ?side5 ?side6 A17.out).mono ?_); (case side1 => repeat (first | (with_reducible first | exact HB.out | apply bA | apply bN | apply b1 | refine bS ?_ GE323.out) | exact HB.out)); (case side2 => exact Kd.R_tight rfl HO331.out); (case side3 => exact Kd.C_kept_came (Kd.heap_int .i64) HR1_0.out zH (fun k_ hs_ => (fun e_ => Kd.R_base HO331.out k_ e_.symm) hs_)); (case side4 => exact HC1_0.out); (case side5 => exact Kd.C_kept_came (Kd.heap_int .i64) HR2.out zH (fun k_ hs_ => (fun e_ => Kd.R_base HO331.out k_ e_.symm) hs_)); (case side6 => exact HC2.out); rintro e w30 ⟨rfl, hy0, hb, hkp⟩; replace BK323 := aM (blk_kept (zK BK323) hkp (fun hs_ => (fun e_ => (Kd.R_ne HO331.out BK323.out (by decide)) e_) hs_)); replace HO331 := aM (Kd.R_reok rfl hy0 (fun k_ e_ => HO331.out.1 k_ e_)); replace HB := aM (hb); (try clear hb); (try clear hkp); (try clear hy0)))
      go_ret
      exact ⟨_, zR, by first | exact Kd.R_nil _ _ _ _ _ | exact Kd.N_nil _ _ _ _ _ | exact Kd.V_nil _ _ _ _ _ | exact Kd.Q_nil _ _ _ _ _ | exact Kd.S_nil _ _ _ _ _, zH⟩
    ·rw [if_neg c16] at H
     exact absurd H (by simp)

theorem iPutRefine_f (b c : List Int) (f t h l : Int) (list : List Int) (hlen : list.length ≤ 1048576) : Ev (fun k => impl_PutRefine.f k b c f t h l list) (prI b f t h l list) := by
  have no : ¬ (numsB b (-16383) 16383 = true ∧ passB f t h l = true ∧ h ≠ 0) → Ev (fun k => impl_PutRefine.j0 k b list true c f t h l) (prI b f t h l list) := fun hn => by
    unfold prI
    rw [if_neg (fun h => hn ⟨h.1, h.2.1, h.2.2.1⟩)]
    exact Ev.step (fun k => by rw [impl_PutRefine.j0]) (evPos rfl (Ev.now _))
  unfold impl_PutRefine.f
  refine evBind (isLevels_f b) (evIf (fun hl => ?_) (fun hl => no (fun h => hl h.1)))
  refine evBind (evConst (isPass_f c f t h l)) (evIf (fun hp => ?_) (fun hp => no (fun h => hp h.2.1)))
  by_cases hh : h = 0
  · rw [show (h == 0) = true from by simp [hh]]
    exact no (fun h => h.2.2 hh)
  · rw [show (h == 0) = false from by simp [hh]]
    refine Ev.step (fun k => by rw [impl_PutRefine.j0]) (evNeg (by simp) ?_)
    have hbl := nums_len hl
    simp only [Option.bind_some, List.nil_append]
    obtain ⟨r, hr, hQ⟩ := iPRef_f b list c f t h l hl hp hlen
    unfold prI
    by_cases ha : (list.length : Int) = t - f + 1 ∧ okAll b list f l = true
    · rw [if_pos ha] at hQ
      subst hQ
      rw [if_pos ⟨hl, hp, hh, ha.1, ha.2⟩]
      exact evPos (by simp; omega) (evBind hr (evPos rfl (Ev.now _)))
    · rw [if_neg ha] at hQ
      rw [if_neg (fun h => ha h.2.2.2)]
      exact evPos (by simp; omega) (evBind hr (evNeg (by rw [hQ]; simp) (Ev.now _)))

/-! ### laws_big: function 31 -/
def laws_big.f (l0 : List Int) : Option (Bool) := some (decide ((l0.length : Int) > 1048576))
set_option maxHeartbeats 8000000 in
set_option maxRecDepth 100000 in
theorem laws_big.calls (A0 : Option Addr) (c0 : Nat) (l0 : List Int) (r : Bool) (w : World) (hr0 : Kd.C (Kd.int .u8) w A0 l0.length l0) (hc0 : l0.length ≤ c0) (h : laws_big.f l0 = some r) :
  Calls Try.prog 31 #[.slice A0 l0.length c0] w fun e w' => e = .returned (.bool r) ∧ Drawn0 w w' := by
 have HR0 := aM hr0
 have HC0 := aM hc0
 clear hr0 hc0
 have H : (some (decide ((l0.length : Int) > 1048576))) = some r := h
 clear h
 obtain rfl := Option.some.inj H
 go_enter Try.func31, Try.ntmps31
 go_wp2
 go_ret
 exact ⟨by first | rfl | (simp; done) | (simp [*]; done), by repeat (first | exact Drawn0.refl _ | apply Drawn0.step)⟩

theorem big_f (l : List Int) : laws_big.f l = some (decide ((l.length : Int) > 1048576)) := rfl

/-- A state of type 126 at block g of W; what its slices lead to came in by w0. -/
def IsS126 (w0 W : World) (g : Nat) (f0 : List Int) (f1 : Int) (f2 : Int) : Prop := ∃ A0 c0, W.heap[g]? = some (.cells #[.slice A0 f0.length c0, .int .i64 f1, .int .i64 f2] 126 (0, 0)) ∧ w0.heap.size ≤ g ∧ Kd.C (Kd.int .u8) w0 A0 f0.length f0
theorem IsS126.grown {w0 W : World} {g : Nat} {f0 : List Int} {f1 : Int} {f2 : Int} {W1 : World} {row : Option Nat} (h : IsS126 w0 W g f0 f1 f2) (hw : W.grownBy W1 row) (hne : some g ≠ row) : IsS126 w0 W1 g f0 f1 f2 := by
  obtain ⟨A0, c0, hb, hg, hr0⟩ := h
  exact ⟨A0, c0, blk_grown hb hw hne, hg, hr0⟩
theorem IsS126.kept {w0 W : World} {g : Nat} {f0 : List Int} {f1 : Int} {f2 : Int} {W1 : World} {S : Nat → Prop} (h : IsS126 w0 W g f0 f1 f2) (hk : Kept W W1 S) (hne : ¬ S g) : IsS126 w0 W1 g f0 f1 f2 := by
  obtain ⟨A0, c0, hb, hg, hr0⟩ := h
  exact ⟨A0, c0, blk_kept hb hk hne, hg, hr0⟩
theorem IsS126.below {w0 W : World} {g : Nat} {f0 : List Int} {f1 : Int} {f2 : Int} {W1 : World} (h : IsS126 w0 W g f0 f1 f2) (hw : Below W.heap.size W W1) : IsS126 w0 W1 g f0 f1 f2 := h.grown (grown_of_below hw none) (by simp)
theorem IsS126.alloc {w0 W : World} {g : Nat} {f0 : List Int} {f1 : Int} {f2 : Int} (h : IsS126 w0 W g f0 f1 f2) (o : Obj) : IsS126 w0 (W.alloc o) g f0 f1 f2 := h.below (below_alloc (Below.refl _ _) o)
theorem IsS126.drewN {w0 W : World} {g : Nat} {f0 : List Int} {f1 : Int} {f2 : Int} (h : IsS126 w0 W g f0 f1 f2) (m : Nat) : IsS126 w0 (W.drewN m) g f0 f1 f2 := h
theorem IsS126.drew {w0 W : World} {g : Nat} {f0 : List Int} {f1 : Int} {f2 : Int} (h : IsS126 w0 W g f0 f1 f2) : IsS126 w0 W.drew g f0 f1 f2 := h
theorem IsS126.at_ {w0 W : World} {g : Nat} {f0 : List Int} {f1 : Int} {f2 : Int} {w' : World} {m : Nat} (hq : W.drewN m = w') (h : IsS126 w0 W g f0 f1 f2) : IsS126 w0 w' g f0 f1 f2 := by subst hq; exact IsS126.drewN h m
theorem IsS126.apart {w0 W : World} {g : Nat} {f0 : List Int} {f1 : Int} {f2 : Int} {α : Type} {d : Kd α} {e : Nat} {base : Nat} {ok : Nat → Prop} {v : Value} {xs : List α} (h : IsS126 w0 W g f0 f1 f2) (ho : d.R e W base ok v xs) (ht : ∀ q, q ∈ e :: d.E → q ≠ 126) : d.R e W base (fun k => ok k ∧ k ≠ g) v xs := by
  obtain ⟨A0, c0, hb, hg, hr0⟩ := h
  exact Kd.R_types ho hb ht
theorem IsS126.own_ne {w0 W : World} {g : Nat} {f0 : List Int} {f1 : Int} {f2 : Int} {α : Type} {d : Kd α} {e : Nat} {base : Nat} {ok : Nat → Prop} {v : Value} {xs : List α} (h : IsS126 w0 W g f0 f1 f2) (ho : d.R e W base ok v xs) (ht : e ≠ 126) : some g ≠ v.ownBlock := by
  obtain ⟨A0, c0, hb, hg, hr0⟩ := h
  exact Kd.R_ne ho hb ht
theorem IsS126.lt {w0 W : World} {g : Nat} {f0 : List Int} {f1 : Int} {f2 : Int} (h : IsS126 w0 W g f0 f1 f2) : g < W.heap.size := by
  obtain ⟨A0, c0, hb, hg, hr0⟩ := h
  exact blk_lt hb
theorem IsS126.ge {w0 W : World} {g : Nat} {f0 : List Int} {f1 : Int} {f2 : Int} (h : IsS126 w0 W g f0 f1 f2) : w0.heap.size ≤ g := by
  obtain ⟨A0, c0, hb, hg, hr0⟩ := h
  exact hg
theorem IsS126.ne_blk {w0 W : World} {g : Nat} {f0 : List Int} {f1 : Int} {f2 : Int} {a : Nat} {cs : Array Value} {t : TypeId} {fr : Nat × Nat} (h : IsS126 w0 W g f0 f1 f2) (hb2 : W.heap[a]? = some (.cells cs t fr)) (ht : t ≠ 126) : g ≠ a := by
  obtain ⟨A0, c0, hb, hg, hr0⟩ := h
  rintro rfl
  rw [hb] at hb2
  injection hb2 with hb2
  injection hb2 with _ ht2
  exact ht ht2.symm
theorem IsS126.far {w0 W : World} {g : Nat} {f0 : List Int} {f1 : Int} {f2 : Int} {p : Addr} (h : IsS126 w0 W g f0 f1 f2) (hne : g ≠ p.block) (u : Value) : IsS126 w0 (W.setCell p u) g f0 f1 f2 := by
  obtain ⟨A0, c0, hb, hg, hr0⟩ := h
  exact ⟨A0, c0, blk_far hb hne u, hg, hr0⟩
theorem cellS126_0 {W : World} {g : Nat} {A0 : Option Addr} {c0 : Nat} {f0 : List Int} {f1 : Int} {f2 : Int} (h : W.heap[g]? = some (.cells #[.slice A0 f0.length c0, .int .i64 f1, .int .i64 f2] 126 (0, 0))) : W.cell? ⟨g, 0, none⟩ = some (.slice A0 f0.length c0) := (blk_cell h 0).trans rfl
theorem cellS126_1 {W : World} {g : Nat} {A0 : Option Addr} {c0 : Nat} {f0 : List Int} {f1 : Int} {f2 : Int} (h : W.heap[g]? = some (.cells #[.slice A0 f0.length c0, .int .i64 f1, .int .i64 f2] 126 (0, 0))) : W.cell? ⟨g, 1, none⟩ = some (.int .i64 f1) := (blk_cell h 1).trans rfl
theorem IsS126.set_1 {w0 W : World} {g : Nat} {f0 : List Int} {f1 : Int} {f2 : Int} (h : IsS126 w0 W g f0 f1 f2) (x : Int) : IsS126 w0 (W.setCell ⟨g, 1, none⟩ (.int .i64 x)) g f0 x f2 := by
  obtain ⟨A0, c0, hb, hg, hr0⟩ := h
  exact ⟨A0, c0, by simpa using blk_set hb 1 (.int .i64 x), hg, hr0⟩
theorem cellS126_2 {W : World} {g : Nat} {A0 : Option Addr} {c0 : Nat} {f0 : List Int} {f1 : Int} {f2 : Int} (h : W.heap[g]? = some (.cells #[.slice A0 f0.length c0, .int .i64 f1, .int .i64 f2] 126 (0, 0))) : W.cell? ⟨g, 2, none⟩ = some (.int .i64 f2) := (blk_cell h 2).trans rfl
theorem IsS126.set_2 {w0 W : World} {g : Nat} {f0 : List Int} {f1 : Int} {f2 : Int} (h : IsS126 w0 W g f0 f1 f2) (x : Int) : IsS126 w0 (W.setCell ⟨g, 2, none⟩ (.int .i64 x)) g f0 f1 x := by
  obtain ⟨A0, c0, hb, hg, hr0⟩ := h
  exact ⟨A0, c0, by simpa using blk_set hb 2 (.int .i64 x), hg, hr0⟩
/-! ### spec_l01Open: function 82 -/
def spec_l01Open.f (l0 : List Int) : Option (List Int × Int × Int) := some (l0, 0, 13 + ((l0.length : Int) % 1000))
set_option maxHeartbeats 8000000 in
set_option maxRecDepth 100000 in
theorem spec_l01Open.calls (A0 : Option Addr) (c0 : Nat) (l0 : List Int) (r1 : List Int) (r2 : Int) (r3 : Int) (w0 w : World) (hB : Below w0.heap.size w0 w) (hr0 : Kd.C (Kd.int .u8) w0 A0 l0.length l0) (hc0 : l0.length ≤ c0) (h : spec_l01Open.f l0 = some (r1, r2, r3)) :
  Calls Try.prog 82 #[.slice A0 l0.length c0] w fun e w' => ∃ g_ : Nat, e = .returned (.pointer (some ⟨g_, 0, none⟩)) ∧ IsS126 w0 w' g_ r1 r2 r3 ∧ Below w0.heap.size w0 w' ∧ Below w.heap.size w w' := by
 have hu126 := Try.underlying126
 have HR0 := aM hr0
 have HC0 := aM hc0
 clear hr0 hc0
 have HBW := aM (Below.refl w.heap.size w)
 have HW0 := aM hB.size
 have HB := aM hB
 clear hB
 have H : (some (l0, 0, 13 + ((l0.length : Int) % 1000))) = some (r1, r2, r3) := h
 clear h
 simp only [Option.some.injEq, Prod.mk.injEq] at H
 obtain ⟨rfl, rfl, rfl⟩ := H
 go_enter Try.func82, Try.ntmps82
 go_wp2_with (first | ((with_reducible refine gate_dst (N := 9) rfl ?_); refine box_event ?hg (N := 9) ?hd (cs := #[.slice A0 l0.length c0, .int .i64 0, .int .i64 (13 + ((l0.length : Int) % 1000))]) (t := 126) ?hr ?_; (case hd => rfl); (case hg => rfl); (case hr => first | (go_simp; done) | (go_simp; rfl)); intro gb334 hg w2 hbox hb; replace HB := cH HB hb; have BK334 := aM hbox; have GW334 := aM ((by rw [hg]; exact (below_size (by repeat (first | (with_reducible first | exact HBW.out | apply bA | apply bN | apply b1) | exact HBW.out))) : w.heap.size ≤ gb334)); have GE334 := aM ((Nat.le_trans HW0.out (by rw [hg]; exact (below_size (by repeat (first | (with_reducible first | exact HBW.out | apply bA | apply bN | apply b1) | exact HBW.out))) : w.heap.size ≤ gb334) : w0.heap.size ≤ gb334)); replace HBW := aM (below_step HBW.out hb); clear hb hbox hg))
 go_ret
 exact ⟨_, rfl, (show IsS126 w0 _ gb334 l0 0 (13 + ((l0.length : Int) % 1000)) from ⟨_, _, zK BK334, GE334.out, HR0.out⟩), zH, by repeat (first | (with_reducible first | exact HBW.out | apply bA | apply bN | apply b1 | refine bS ?_ GW334.out) | exact HBW.out)⟩

theorem open_f (code : List Int) (hc : CodeOk code) : EvP (fun _ => spec_l01Open.f code) (fun r => r.1 = code ∧ CurOk 0 r.2.1 r.2.2) := by
  unfold spec_l01Open.f
  exact evpNow rfl ⟨rfl, ⟨by simp, by simp, by simp only []; omega, by simp only []; omega⟩⟩

/-! ### spec_l01Cur_pick: function 122 -/
def spec_l01Cur_pick.f (s0_0 : List Int) (s0_1 : Int) (s0_2 : Int) (a1 : Int) : Option (Int × Int × Int) := if a1 < 2 then (some (0, s0_1, s0_2)) else (if s0_1 < (s0_0.length : Int) then (if 0 ≤ s0_1 then (if a1 > 256 then (if (wrap64 (s0_1 + 1)) < (s0_0.length : Int) then (if 0 ≤ (wrap64 (s0_1 + 1)) then (if a1 = 0 then (none) else (some (Int.tmod (wrap64 ((wrap64 (256 * (wrap64 (rd s0_0 s0_1)))) + (wrap64 (rd s0_0 (wrap64 (s0_1 + 1)))))) a1, wrap64 ((wrap64 (s0_1 + 1)) + 1), s0_2))) else (none)) else (if a1 = 0 then (none) else (some (Int.tmod (wrap64 (rd s0_0 s0_1)) a1, wrap64 (s0_1 + 1), s0_2)))) else (if a1 = 0 then (none) else (some (Int.tmod (wrap64 (rd s0_0 s0_1)) a1, wrap64 (s0_1 + 1), s0_2)))) else (none)) else (if (s0_0.length : Int) > 0 then (if (s0_0.length : Int) = 0 then (none) else (if 0 ≤ (Int.tmod s0_1 (s0_0.length : Int)) then (if (Int.tmod s0_1 (s0_0.length : Int)) < (s0_0.length : Int) then (if a1 = 0 then (none) else (some (Int.tmod (wrap64 ((wrap64 (Int.tdiv (Int.tmod (wrap64 ((wrap64 (s0_2 * 1103)) + 12345)) 65521) 3)) + (wrap64 (rd s0_0 (Int.tmod s0_1 (s0_0.length : Int)))))) a1, wrap64 (s0_1 + 1), Int.tmod (wrap64 ((wrap64 (s0_2 * 1103)) + 12345)) 65521))) else (none)) else (none))) else (if a1 = 0 then (none) else (some (Int.tmod (wrap64 (Int.tdiv (Int.tmod (wrap64 ((wrap64 (s0_2 * 1103)) + 12345)) 65521) 3)) a1, wrap64 (s0_1 + 1), Int.tmod (wrap64 ((wrap64 (s0_2 * 1103)) + 12345)) 65521)))))
set_option maxHeartbeats 8000000 in
set_option maxRecDepth 100000 in
theorem spec_l01Cur_pick.calls (g : Nat) (s0_0 : List Int) (s0_1 : Int) (s0_2 : Int) (a1 : Int) (r1 : Int) (r2 : Int) (r3 : Int) (w0 w : World) (hI : IsS126 w0 w g s0_0 s0_1 s0_2) (hB : Below w0.heap.size w0 w) (h : spec_l01Cur_pick.f s0_0 s0_1 s0_2 a1 = some (r1, r2, r3)) :
  Calls Try.prog 122 #[.pointer (some ⟨g, 0, none⟩), .int .i64 a1] w fun e w' => e = .returned (.int .i64 r1) ∧ IsS126 w0 w' g s0_0 r2 r3 ∧ Below w0.heap.size w0 w' ∧ KeepBut w w' g none := by
 have HI0 := aM hI
 have HK := aM (KeepBut.refl w g none)
 have HL := aM hB.size
 clear hI
 have HW0 := aM hB.size
 have HB := aM hB
 clear hB
 have H : (if a1 < 2 then (some (0, s0_1, s0_2)) else (if s0_1 < (s0_0.length : Int) then (if 0 ≤ s0_1 then (if a1 > 256 then (if (wrap64 (s0_1 + 1)) < (s0_0.length : Int) then (if 0 ≤ (wrap64 (s0_1 + 1)) then (if a1 = 0 then (none) else (some (Int.tmod (wrap64 ((wrap64 (256 * (wrap64 (rd s0_0 s0_1)))) + (wrap64 (rd s0_0 (wrap64 (s0_1 + 1)))))) a1, wrap64 ((wrap64 (s0_1 + 1)) + 1), s0_2))) else (none)) else (if a1 = 0 then (none) else (some (Int.tmod (wrap64 (rd s0_0 s0_1)) a1, wrap64 (s0_1 + 1), s0_2)))) else (if a1 = 0 then (none) else (some (Int.tmod (wrap64 (rd s0_0 s0_1)) a1, wrap64 (s0_1 + 1), s0_2)))) else (none)) else (if (s0_0.length : Int) > 0 then (if (s0_0.length : Int) = 0 then (none) else (if 0 ≤ (Int.tmod s0_1 (s0_0.length : Int)) then (if (Int.tmod s0_1 (s0_0.length : Int)) < (s0_0.length : Int) then (if a1 = 0 then (none) else (some (Int.tmod (wrap64 ((wrap64 (Int.tdiv (Int.tmod (wrap64 ((wrap64 (s0_2 * 1103)) + 12345)) 65521) 3)) + (wrap64 (rd s0_0 (Int.tmod s0_1 (s0_0.length : Int)))))) a1, wrap64 (s0_1 + 1), Int.tmod (wrap64 ((wrap64 (s0_2 * 1103)) + 12345)) 65521))) else (none)) else (none))) else (if a1 = 0 then (none) else (some (Int.tmod (wrap64 (Int.tdiv (Int.tmod (wrap64 ((wrap64 (s0_2 * 1103)) + 12345)) 65521) 3)) a1, wrap64 (s0_1 + 1), Int.tmod (wrap64 ((wrap64 (s0_2 * 1103)) + 12345)) 65521)))))) = some (r1, r2, r3) := h
 clear h
 by_cases c3 : a1 < 2
 ·rw [if_pos c3] at H
  have c3b0 : decide (a1 < 2) = true := decide_eq_true c3
  clear c3
  simp only [Option.some.injEq, Prod.mk.injEq] at H
  obtain ⟨rfl, rfl, rfl⟩ := H
  go_enter Try.func122, Try.ntmps122
  go_wp2
  repeat (go_quiet (fail); try go_wp2)
  go_ret
  exact ⟨zR, by repeat (first | (with_reducible first | exact HI0.out | apply IsS126.alloc | apply IsS126.drewN | apply IsS126.drew | apply IsS126.set_1 | apply IsS126.set_2) | exact HI0.out), by repeat (first | (with_reducible first | exact HB.out | apply bA | apply bN | apply b1 | refine bS ?_ (IsS126.ge HI0.out)) | exact HB.out), by repeat (first | (with_reducible first | exact HK.out | apply KeepBut.set_ | apply keep_drewN | apply keep_drew | apply keep_alloc) | exact HK.out)⟩
 ·rw [if_neg c3] at H
  have c3b0 : decide (a1 < 2) = false := decide_eq_false c3
  clear c3
  by_cases c4 : s0_1 < (s0_0.length : Int)
  ·rw [if_pos c4] at H
   have c4b0 : decide (s0_1 < (s0_0.length : Int)) = true := decide_eq_true c4
   clear c4
   by_cases c5 : 0 ≤ s0_1
   ·rw [if_pos c5] at H
    have c5b0 : decide (0 ≤ s0_1) = true := decide_eq_true c5
    clear c5
    by_cases c6 : a1 > 256
    ·rw [if_pos c6] at H
     have c6b0 : decide (256 < a1) = true := decide_eq_true c6
     clear c6
     by_cases c7 : (wrap64 (s0_1 + 1)) < (s0_0.length : Int)
     ·rw [if_pos c7] at H
      have c7b0 : decide ((wrap64 (s0_1 + 1)) < (s0_0.length : Int)) = true := decide_eq_true c7
      clear c7
      obtain ⟨ji8, hji8⟩ : ∃ j_ : Int, (wrap64 (s0_1 + 1)) = j_ := ⟨_, rfl⟩
      replace H : (if 0 ≤ (ji8) then (if a1 = 0 then (none) else (some (Int.tmod (wrap64 ((wrap64 (256 * (wrap64 (rd s0_0 s0_1)))) + (wrap64 (rd s0_0 (ji8))))) a1, wrap64 ((ji8) + 1), s0_2))) else (none)) = some (r1, r2, r3) := by first | (rw [hji8] at H; exact H) | (simp only [hji8] at H ⊢; exact H)
      (try rw [hji8] at c7b0)
      have hji8w : (IntKind.i64.wrap (s0_1 + 1)) = ji8 := (i64_w _).trans hji8
      by_cases c9 : 0 ≤ (ji8)
      ·rw [if_pos c9] at H
       have c9b0 : decide (0 ≤ (ji8)) = true := decide_eq_true c9
       clear c9
       by_cases c10 : a1 = 0
       ·rw [if_pos c10] at H
        exact absurd H (by simp)
       ·rw [if_neg c10] at H
        have c10b0 : (a1 == 0) = false := beq_eq_false_iff_ne.mpr c10
        have c10b1 : (a1 != 0) = true := bne_iff_ne.mpr c10
        simp only [Option.some.injEq, Prod.mk.injEq] at H
        obtain ⟨rfl, rfl, rfl⟩ := H
        obtain ⟨ASz11_0, cSz11_0, HGz11, hgz11, HSz11_0⟩ := HI0.out
        have hcz11_0 := cellS126_0 HGz11
        have hcz11_1 := cellS126_1 HGz11
        have hcz11_2 := cellS126_2 HGz11
        have hfz11_1 := blk_frozen HGz11 1
        have hfz11_2 := blk_frozen HGz11 2
        clear HGz11 hgz11
        have p335 : 0 ≤ (s0_1 : Int) := zA
        have q335 : s0_1 < (s0_0.length : Int) := zA
        obtain ⟨ad335, e335, hx335_0⟩ := Kd.at_int HSz11_0 s0_1 p335 q335
        cases e335
        replace hx335_0 := pw_cell_below HB.out hx335_0
        replace p335 := eq_true p335
        replace q335 := eq_true q335
        have p336 : 0 ≤ ((ji8) : Int) := zA
        have q336 : (ji8) < (s0_0.length : Int) := zA
        obtain ⟨ad336, e336, hx336_0⟩ := Kd.at_int HSz11_0 (ji8) p336 q336
        obtain rfl : ad335 = ad336 := (by injection e336)
        have hn336_0 : ad335.block ≠ g := Nat.ne_of_lt (Nat.lt_of_lt_of_le (by have := wL _ _ hx336_0; first | rwa [add_block] at this | exact this) (IsS126.ge HI0.out))
        replace hx336_0 := pw_cell_below HB.out hx336_0
        replace hx336_0 := (cell_far (p := ⟨g, 1, none⟩) (by first | (rw [add_block]; exact hn336_0) | (show (Addr.add _ _).block ≠ _; rw [add_block]; exact hn336_0) | exact hn336_0) (.int .i64 ji8)).trans hx336_0
        (try have hy336_0 := fun (n_ : Nat) => (show (((w.drewN n_).setCell ⟨g, 1, none⟩ (.int .i64 ji8))).cell? _ = some _ from hx336_0))
        clear hn336_0
        replace p336 := eq_true p336
        replace q336 := eq_true q336
        go_enter Try.func122, Try.ntmps122
        go_wp2
        repeat (go_quiet (fail); try go_wp2)
        go_ret
        exact ⟨by first | rfl | (simp [errW_none, errW_some] <;> rfl) | (simp only [← hji8]; first | rfl | (simp [errW_none, errW_some] <;> rfl)) | (simp [*, errW_none, errW_some] <;> rfl), by repeat (first | (with_reducible first | exact HI0.out | apply IsS126.alloc | apply IsS126.drewN | apply IsS126.drew | apply IsS126.set_1 | apply IsS126.set_2) | exact HI0.out), by repeat (first | (with_reducible first | exact HB.out | apply bA | apply bN | apply b1 | refine bS ?_ (IsS126.ge HI0.out)) | exact HB.out), by repeat (first | (with_reducible first | exact HK.out | apply KeepBut.set_ | apply keep_drewN | apply keep_drew | apply keep_alloc) | exact HK.out)⟩
      ·rw [if_neg c9] at H
       exact absurd H (by simp)
     ·rw [if_neg c7] at H
      have c7b0 : decide ((wrap64 (s0_1 + 1)) < (s0_0.length : Int)) = false := decide_eq_false c7
      clear c7
      by_cases c12 : a1 = 0
      ·rw [if_pos c12] at H
       exact absurd H (by simp)
      ·rw [if_neg c12] at H
       have c12b0 : (a1 == 0) = false := beq_eq_false_iff_ne.mpr c12
       have c12b1 : (a1 != 0) = true := bne_iff_ne.mpr c12
       simp only [Option.some.injEq, Prod.mk.injEq] at H
       obtain ⟨rfl, rfl, rfl⟩ := H
       obtain ⟨ASz13_0, cSz13_0, HGz13, hgz13, HSz13_0⟩ := HI0.out
       have hcz13_0 := cellS126_0 HGz13
       have hcz13_1 := cellS126_1 HGz13
       have hcz13_2 := cellS126_2 HGz13
       have hfz13_1 := blk_frozen HGz13 1
       have hfz13_2 := blk_frozen HGz13 2
       clear HGz13 hgz13
       have p335 : 0 ≤ (s0_1 : Int) := zA
       have q335 : s0_1 < (s0_0.length : Int) := zA
       obtain ⟨ad335, e335, hx335_0⟩ := Kd.at_int HSz13_0 s0_1 p335 q335
       cases e335
       replace hx335_0 := pw_cell_below HB.out hx335_0
       replace p335 := eq_true p335
       replace q335 := eq_true q335
       go_enter Try.func122, Try.ntmps122
       go_wp2
       repeat (go_quiet (fail); try go_wp2)
       go_ret
       exact ⟨zR, by repeat (first | (with_reducible first | exact HI0.out | apply IsS126.alloc | apply IsS126.drewN | apply IsS126.drew | apply IsS126.set_1 | apply IsS126.set_2) | exact HI0.out), by repeat (first | (with_reducible first | exact HB.out | apply bA | apply bN | apply b1 | refine bS ?_ (IsS126.ge HI0.out)) | exact HB.out), by repeat (first | (with_reducible first | exact HK.out | apply KeepBut.set_ | apply keep_drewN | apply keep_drew | apply keep_alloc) | exact HK.out)⟩
    ·rw [if_neg c6] at H
     have c6b0 : decide (256 < a1) = false := decide_eq_false c6
     clear c6
     by_cases c14 : a1 = 0
     ·rw [if_pos c14] at H
      exact absurd H (by simp)
     ·rw [if_neg c14] at H
      have c14b0 : (a1 == 0) = false := beq_eq_false_iff_ne.mpr c14
      have c14b1 : (a1 != 0) = true := bne_iff_ne.mpr c14
      simp only [Option.some.injEq, Prod.mk.injEq] at H
      obtain ⟨rfl, rfl, rfl⟩ := H
      obtain ⟨ASz15_0, cSz15_0, HGz15, hgz15, HSz15_0⟩ := HI0.out
      have hcz15_0 := cellS126_0 HGz15
      have hcz15_1 := cellS126_1 HGz15
      have hcz15_2 := cellS126_2 HGz15
      have hfz15_1 := blk_frozen HGz15 1
      have hfz15_2 := blk_frozen HGz15 2
      clear HGz15 hgz15
      have p335 : 0 ≤ (s0_1 : Int) := zA
      have q335 : s0_1 < (s0_0.length : Int) := zA
      obtain ⟨ad335, e335, hx335_0⟩ := Kd.at_int HSz15_0 s0_1 p335 q335
      cases e335
      replace hx335_0 := pw_cell_below HB.out hx335_0
      replace p335 := eq_true p335
      replace q335 := eq_true q335
      go_enter Try.func122, Try.ntmps122
      go_wp2
      repeat (go_quiet (fail); try go_wp2)
      go_ret
      exact ⟨zR, by repeat (first | (with_reducible first | exact HI0.out | apply IsS126.alloc | apply IsS126.drewN | apply IsS126.drew | apply IsS126.set_1 | apply IsS126.set_2) | exact HI0.out), by repeat (first | (with_reducible first | exact HB.out | apply bA | apply bN | apply b1 | refine bS ?_ (IsS126.ge HI0.out)) | exact HB.out), by repeat (first | (with_reducible first | exact HK.out | apply KeepBut.set_ | apply keep_drewN | apply keep_drew | apply keep_alloc) | exact HK.out)⟩
   ·rw [if_neg c5] at H
    exact absurd H (by simp)
  ·rw [if_neg c4] at H
   have c4b0 : decide (s0_1 < (s0_0.length : Int)) = false := decide_eq_false c4
   clear c4
   by_cases c16 : (s0_0.length : Int) > 0
   ·rw [if_pos c16] at H
    have c16b0 : decide (0 < (s0_0.length : Int)) = true := decide_eq_true c16
    have c16b1 : decide (0 < s0_0.length) = true := decide_eq_true (by omega)
    clear c16
    by_cases c17 : (s0_0.length : Int) = 0
    ·rw [if_pos c17] at H
     exact absurd H (by simp)
    ·rw [if_neg c17] at H
     have c17b0 : ((s0_0.length : Int) == 0) = false := beq_eq_false_iff_ne.mpr c17
     have c17b1 : ((s0_0.length : Int) != 0) = true := bne_iff_ne.mpr c17
     have c17b2 : ¬ (s0_0 = []) := fun h_ => c17 (by rw [h_]; rfl)
     obtain ⟨ji18, hji18⟩ : ∃ j_ : Int, (Int.tmod s0_1 (s0_0.length : Int)) = j_ := ⟨_, rfl⟩
     replace H : (if 0 ≤ (ji18) then (if (ji18) < (s0_0.length : Int) then (if a1 = 0 then (none) else (some (Int.tmod (wrap64 ((wrap64 (Int.tdiv (Int.tmod (wrap64 ((wrap64 (s0_2 * 1103)) + 12345)) 65521) 3)) + (wrap64 (rd s0_0 (ji18))))) a1, wrap64 (s0_1 + 1), Int.tmod (wrap64 ((wrap64 (s0_2 * 1103)) + 12345)) 65521))) else (none)) else (none)) = some (r1, r2, r3) := by first | (rw [hji18] at H; exact H) | (simp only [hji18] at H ⊢; exact H)
     by_cases c19 : 0 ≤ (ji18)
     ·rw [if_pos c19] at H
      have c19b0 : decide (0 ≤ (ji18)) = true := decide_eq_true c19
      clear c19
      by_cases c20 : (ji18) < (s0_0.length : Int)
      ·rw [if_pos c20] at H
       have c20b0 : decide ((ji18) < (s0_0.length : Int)) = true := decide_eq_true c20
       clear c20
       by_cases c21 : a1 = 0
       ·rw [if_pos c21] at H
        exact absurd H (by simp)
       ·rw [if_neg c21] at H
        have c21b0 : (a1 == 0) = false := beq_eq_false_iff_ne.mpr c21
        have c21b1 : (a1 != 0) = true := bne_iff_ne.mpr c21
        simp only [Option.some.injEq, Prod.mk.injEq] at H
        obtain ⟨rfl, rfl, rfl⟩ := H
        obtain ⟨ASz22_0, cSz22_0, HGz22, hgz22, HSz22_0⟩ := HI0.out
        have hcz22_0 := cellS126_0 HGz22
        have hcz22_1 := cellS126_1 HGz22
        have hcz22_2 := cellS126_2 HGz22
        have hfz22_1 := blk_frozen HGz22 1
        have hfz22_2 := blk_frozen HGz22 2
        clear HGz22 hgz22
        have p337 : 0 ≤ ((ji18) : Int) := zA
        have q337 : (ji18) < (s0_0.length : Int) := zA
        obtain ⟨ad337, e337, hx337_0⟩ := Kd.at_int HSz22_0 (ji18) p337 q337
        cases e337
        have hn337_0 : ad337.block ≠ g := Nat.ne_of_lt (Nat.lt_of_lt_of_le (by have := wL _ _ hx337_0; first | rwa [add_block] at this | exact this) (IsS126.ge HI0.out))
        replace hx337_0 := pw_cell_below HB.out hx337_0
        replace hx337_0 := (cell_far (p := ⟨g, 2, none⟩) (by first | (rw [add_block]; exact hn337_0) | (show (Addr.add _ _).block ≠ _; rw [add_block]; exact hn337_0) | exact hn337_0) (.int .i64 (Int.tmod (wrap64 ((wrap64 (s0_2 * 1103)) + 12345)) 65521))).trans hx337_0
        (try have hy337_0 := fun (n_ : Nat) => (show (((w.drewN n_).setCell ⟨g, 2, none⟩ (.int .i64 (Int.tmod (wrap64 ((wrap64 (s0_2 * 1103)) + 12345)) 65521)))).cell? _ = some _ from hx337_0))
        clear hn337_0
        replace p337 := eq_true p337
        replace q337 := eq_true q337
        go_enter Try.func122, Try.ntmps122
        go_wp2
        repeat (go_quiet (fail); try go_wp2)
        go_ret
        exact ⟨by first | rfl | (simp [errW_none, errW_some] <;> rfl) | (simp only [← hji18]; first | rfl | (simp [errW_none, errW_some] <;> rfl)) | (simp [*, errW_none, errW_some] <;> rfl), by repeat (first | (with_reducible first | exact HI0.out | apply IsS126.alloc | apply IsS126.drewN | apply IsS126.drew | apply IsS126.set_1 | apply IsS126.set_2) | exact HI0.out), by repeat (first | (with_reducible first | exact HB.out | apply bA | apply bN | apply b1 | refine bS ?_ (IsS126.ge HI0.out)) | exact HB.out), by repeat (first | (with_reducible first | exact HK.out | apply KeepBut.set_ | apply keep_drewN | apply keep_drew | apply keep_alloc) | exact HK.out)⟩
      ·rw [if_neg c20] at H
       exact absurd H (by simp)
     ·rw [if_neg c19] at H
      exact absurd H (by simp)
   ·rw [if_neg c16] at H
    have c16b0 : decide (0 < (s0_0.length : Int)) = false := decide_eq_false c16
    have c16b1 : decide (0 < s0_0.length) = false := decide_eq_false (by omega)
    clear c16
    by_cases c23 : a1 = 0
    ·rw [if_pos c23] at H
     exact absurd H (by simp)
    ·rw [if_neg c23] at H
     have c23b0 : (a1 == 0) = false := beq_eq_false_iff_ne.mpr c23
     have c23b1 : (a1 != 0) = true := bne_iff_ne.mpr c23
     simp only [Option.some.injEq, Prod.mk.injEq] at H
     obtain ⟨rfl, rfl, rfl⟩ := H
     obtain ⟨ASz24_0, cSz24_0, HGz24, hgz24, HSz24_0⟩ := HI0.out
     have hcz24_0 := cellS126_0 HGz24
     have hcz24_1 := cellS126_1 HGz24
     have hcz24_2 := cellS126_2 HGz24
     have hfz24_1 := blk_frozen HGz24 1
     have hfz24_2 := blk_frozen HGz24 2
     clear HGz24 hgz24
     go_enter Try.func122, Try.ntmps122
     go_wp2
     repeat (go_quiet (fail); try go_wp2)
     go_ret
     exact ⟨zR, by repeat (first | (with_reducible first | exact HI0.out | apply IsS126.alloc | apply IsS126.drewN | apply IsS126.drew | apply IsS126.set_1 | apply IsS126.set_2) | exact HI0.out), by repeat (first | (with_reducible first | exact HB.out | apply bA | apply bN | apply b1 | refine bS ?_ (IsS126.ge HI0.out)) | exact HB.out), by repeat (first | (with_reducible first | exact HK.out | apply KeepBut.set_ | apply keep_drewN | apply keep_drew | apply keep_alloc) | exact HK.out)⟩

theorem pick_p {code : List Int} {at_ seed n : Int} {m : Nat} (hc : CodeOk code) (h : CurOk m at_ seed) (hm : m ≤ 1152921504606846976) :
    ∃ x a s, spec_l01Cur_pick.f code at_ seed n = some (x, a, s) ∧ (0 ≤ x ∧ (x < n ∨ n < 2 ∧ x = 0)) ∧ CurOk (m + 2) a s := by
  obtain ⟨a0, a1, s0, s1⟩ := h
  have r := fun i => rd_range0 (l := code) hc.2 (by omega) (by omega) i
  have hl := hc.1
  unfold spec_l01Cur_pick.f
  by_cases h2 : n < 2
  · rw [if_pos h2]
    exact ⟨_, _, _, rfl, ⟨by omega, .inr ⟨h2, rfl⟩⟩, ⟨a0, by omega, s0, s1⟩⟩
  · rw [if_neg h2]
    have fin : ∀ (X a s : Int), 0 ≤ X → CurOk (m + 2) a s → ∃ x a' s', (if n = 0 then (none : Option (Int × Int × Int)) else (some (Int.tmod X n, a, s))) = some (x, a', s') ∧ (0 ≤ x ∧ (x < n ∨ n < 2 ∧ x = 0)) ∧ CurOk (m + 2) a' s' := fun X a s hX hk => by
      rw [if_neg (by omega)]
      have := tmod_range hX (show 0 < n by omega)
      exact ⟨_, _, _, rfl, ⟨this.1, .inl this.2⟩, hk⟩
    by_cases ha : at_ < (code.length : Int)
    · rw [if_pos ha, if_pos a0]
      have r0 := r at_
      rw [w64 (x := rd code at_) (by omega) (by omega), w64 (x := at_ + 1) (by omega) (by omega)]
      have one : ∃ x a' s', (if n = 0 then (none : Option (Int × Int × Int)) else (some (Int.tmod (rd code at_) n, at_ + 1, seed))) = some (x, a', s') ∧ (0 ≤ x ∧ (x < n ∨ n < 2 ∧ x = 0)) ∧ CurOk (m + 2) a' s' := fin _ _ _ r0.1 ⟨by omega, by omega, s0, s1⟩
      by_cases h3 : n > 256
      · rw [if_pos h3]
        by_cases h4 : at_ + 1 < (code.length : Int)
        · rw [if_pos h4, if_pos (by omega)]
          have r1 := r (at_ + 1)
          rw [w64 (x := rd code (at_ + 1)) (by omega) (by omega), w64 (x := 256 * rd code at_) (by omega) (by omega), w64 (x := 256 * rd code at_ + rd code (at_ + 1)) (by omega) (by omega), w64 (x := at_ + 1 + 1) (by omega) (by omega)]
          exact fin _ _ _ (by omega) ⟨by omega, by omega, s0, s1⟩
        · rw [if_neg h4]
          exact one
      · rw [if_neg h3]
        exact one
    · rw [if_neg ha]
      have t0 := tmod_range (a := seed * 1103 + 12345) (b := 65521) (by omega) (by omega)
      rw [w64 (x := seed * 1103) (by omega) (by omega), w64 (x := seed * 1103 + 12345) (by omega) (by omega), w64 (x := at_ + 1) (by omega) (by omega)]
      generalize Int.tmod (seed * 1103 + 12345) 65521 = S at t0 ⊢
      rw [tdiv3 t0.1, w64 (x := S / 3) (by omega) (by omega)]
      by_cases h5 : (code.length : Int) > 0
      · have t1 := tmod_range (a := at_) a0 h5
        rw [if_pos h5, if_neg (by omega), if_pos t1.1, if_pos t1.2]
        have r2 := r (Int.tmod at_ (code.length : Int))
        rw [w64 (x := rd code (Int.tmod at_ (code.length : Int))) (by omega) (by omega), w64 (x := S / 3 + rd code (Int.tmod at_ (code.length : Int))) (by omega) (by omega)]
        exact fin _ _ _ (by omega) ⟨by omega, by omega, by omega, by omega⟩
      · rw [if_neg h5]
        exact fin _ _ _ (by omega) ⟨by omega, by omega, by omega, by omega⟩
/-- A drawn number. -/
theorem pickP {code : List Int} {at_ seed n : Int} (m : Nat) (hc : CodeOk code) (h : CurOk m at_ seed) (hm : m ≤ 1152921504606846976) :
    EvP (fun _ => spec_l01Cur_pick.f code at_ seed n) (fun r => (0 ≤ r.1 ∧ (r.1 < n ∨ n < 2 ∧ r.1 = 0)) ∧ CurOk (m + 2) r.2.1 r.2.2) := by
  obtain ⟨x, a, s, e, hx, hk⟩ := pick_p (n := n) hc h hm
  exact evpNow e ⟨hx, hk⟩

/-! ### spec_l01Cur_once: function 120 -/
def spec_l01Cur_once.f (s0_0 : List Int) (s0_1 : Int) (s0_2 : Int) (a1 : Int) : Option (Bool × Int × Int) := (spec_l01Cur_pick.f s0_0 s0_1 s0_2 a1).bind fun bt338 => (some ((bt338.1 == (wrap64 (a1 - 1))), bt338.2.1, bt338.2.2))
set_option maxHeartbeats 8000000 in
set_option maxRecDepth 100000 in
theorem spec_l01Cur_once.calls (g : Nat) (s0_0 : List Int) (s0_1 : Int) (s0_2 : Int) (a1 : Int) (r1 : Bool) (r2 : Int) (r3 : Int) (w0 w : World) (hI : IsS126 w0 w g s0_0 s0_1 s0_2) (hB : Below w0.heap.size w0 w) (h : spec_l01Cur_once.f s0_0 s0_1 s0_2 a1 = some (r1, r2, r3)) :
  Calls Try.prog 120 #[.pointer (some ⟨g, 0, none⟩), .int .i64 a1] w fun e w' => e = .returned (.bool r1) ∧ IsS126 w0 w' g s0_0 r2 r3 ∧ Below w0.heap.size w0 w' ∧ KeepBut w w' g none := by
 have HI0 := aM hI
 have HK := aM (KeepBut.refl w g none)
 have HL := aM hB.size
 clear hI
 have HW0 := aM hB.size
 have HB := aM hB
 clear hB
 have H : ((spec_l01Cur_pick.f s0_0 s0_1 s0_2 a1).bind fun bt338 => (some ((bt338.1 == (wrap64 (a1 - 1))), bt338.2.1, bt338.2.2))) = some (r1, r2, r3) := h
 clear h
 replace H := oB H
 obtain ⟨⟨t338, t339, t340⟩, A30, H⟩ := H
 replace H : (some ((t338 == (wrap64 (a1 - 1))), t339, t340)) = some (r1, r2, r3) := H
 have A3 := aM A30
 clear A30
 simp only [Option.some.injEq, Prod.mk.injEq] at H
 obtain ⟨rfl, rfl, rfl⟩ := H
 go_enter Try.func120, Try.ntmps120
 go_wp2_with (first | (go_at_call 122; (with_reducible refine (spec_l01Cur_pick.calls g s0_0 s0_1 s0_2 a1 t338 t339 t340 w0 _ ?side1 ?side2 A3.out).mono ?_); (case side1 => repeat (first | (with_reducible first | exact HI0.out | apply IsS126.alloc | apply IsS126.drewN | apply IsS126.drew | apply IsS126.set_1 | apply IsS126.set_2) | exact HI0.out)); (case side2 => repeat (first | (with_reducible first | exact HB.out | apply bA | apply bN | apply b1 | refine bS ?_ (IsS126.ge HI0.out)) | exact HB.out)); rintro e w4 ⟨rfl, hi, hb, hk⟩; replace HK := aM (KeepBut.trans (by repeat (first | (with_reducible first | exact HK.out | apply KeepBut.set_ | apply keep_drewN | apply keep_drew | apply keep_alloc) | exact HK.out)) hk (.inl rfl)); replace HB := aM (hb); replace HI0 := aM (hi); (try clear hb); (try clear hk); (try clear hi)))
 go_ret
 exact ⟨zR, by repeat (first | (with_reducible first | exact HI0.out | apply IsS126.alloc | apply IsS126.drewN | apply IsS126.drew | apply IsS126.set_1 | apply IsS126.set_2) | exact HI0.out), by repeat (first | (with_reducible first | exact HB.out | apply bA | apply bN | apply b1 | refine bS ?_ (IsS126.ge HI0.out)) | exact HB.out), by repeat (first | (with_reducible first | exact HK.out | apply KeepBut.set_ | apply keep_drewN | apply keep_drew | apply keep_alloc) | exact HK.out)⟩

theorem onceP {code : List Int} {at_ seed n : Int} (m : Nat) (hc : CodeOk code) (h : CurOk m at_ seed) (hm : m ≤ 1152921504606846976) :
    EvP (fun _ => spec_l01Cur_once.f code at_ seed n) (fun r => CurOk (m + 2) r.2.1 r.2.2) := by
  unfold spec_l01Cur_once.f
  exact evpBind (pickP m hc h hm) (fun b hb => evpNow rfl hb.2)

/-! ### spec_l05Clip: function 140 -/
def spec_l05Clip.f (a0 : Int) (a1 : Int) (a2 : Int) : Option (Int) := if a0 < a1 then (some a1) else (if a0 > a2 then (some a2) else (some a0))
set_option maxHeartbeats 8000000 in
set_option maxRecDepth 100000 in
theorem spec_l05Clip.calls (a0 : Int) (a1 : Int) (a2 : Int) (r : Int) (w : World) (h : spec_l05Clip.f a0 a1 a2 = some r) :
  Calls Try.prog 140 #[.int .i64 a0, .int .i64 a1, .int .i64 a2] w fun e w' => e = .returned (.int .i64 r) ∧ Drawn0 w w' := by
 have H : (if a0 < a1 then (some a1) else (if a0 > a2 then (some a2) else (some a0))) = some r := h
 clear h
 by_cases c4 : a0 < a1
 ·rw [if_pos c4] at H
  have c4b0 : decide (a0 < a1) = true := decide_eq_true c4
  clear c4
  obtain rfl := Option.some.inj H
  go_enter Try.func140, Try.ntmps140
  go_wp2
  go_ret
  exact ⟨by first | rfl | (simp; done) | (simp [*]; done), by repeat (first | exact Drawn0.refl _ | apply Drawn0.step)⟩
 ·rw [if_neg c4] at H
  have c4b0 : decide (a0 < a1) = false := decide_eq_false c4
  clear c4
  by_cases c5 : a0 > a2
  ·rw [if_pos c5] at H
   have c5b0 : decide (a2 < a0) = true := decide_eq_true c5
   clear c5
   obtain rfl := Option.some.inj H
   go_enter Try.func140, Try.ntmps140
   go_wp2
   go_ret
   exact ⟨by first | rfl | (simp; done) | (simp [*]; done), by repeat (first | exact Drawn0.refl _ | apply Drawn0.step)⟩
  ·rw [if_neg c5] at H
   have c5b0 : decide (a2 < a0) = false := decide_eq_false c5
   clear c5
   obtain rfl := Option.some.inj H
   go_enter Try.func140, Try.ntmps140
   go_wp2
   go_ret
   exact ⟨by first | rfl | (simp; done) | (simp [*]; done), by repeat (first | exact Drawn0.refl _ | apply Drawn0.step)⟩

end Go.Proofs.Ythajjjpblkhmmaa.CP
