/- Functions that a law of this seat reaches: written by a program of this session (wip/xprint.py), and by hand. -/
import Derived.Test.YthajjjpblkhmmaaQMac
import Derived.Test.YthajjjpblkhmmaaQCPx0
import Derived.Test.YthajjjpblkhmmaaQCPx1
import Derived.Test.YthajjjpblkhmmaaQCPx2
import Derived.Test.YthajjjpblkhmmaaQCPx3
import Derived.Test.YthajjjpblkhmmaaQCPx4
import Derived.Test.YthajjjpblkhmmaaQCPx5
namespace Go.Proofs.Ythajjjpblkhmmaa.CP
open Go.RowKit Go.Proofs.Ythajjjpblkhmmaa.B Go.Proofs.YthajjjpblkhmmaaW.PrintWords Go.Proofs.YthajjjpblkhmmaaW.PrintLast Go.Proofs.YthajjjpblkhmmaaW.PrintMore
attribute [local go_sem] max2_int min2_int max_two min_two max_three min_three max_four min_four   -- for this text's walks alone
set_option linter.unusedVariables false
set_option linter.unusedSimpArgs false

/-! ### impl_putFirst: function 78 -/
mutual
def impl_putFirst.j0 : Nat → List Int → List Int → List Int → Bool → List Int → Int → Int → Int → Int → Option (Bool × List Int)
  | 0, _, _, _, _, _, _, _, _, _ => none
  | k + 1, x0, x2, x8, x31, x213000, x213001, x213002, x213003, x213004 => if x31 = true then (some (false, x0)) else (impl_putFirst.l0 k x0 x8 x2 (x2.length : Int) 0 x213000 x213001 x213002 x213003 x213004)
def impl_putFirst.l0 : Nat → List Int → List Int → List Int → Int → Int → List Int → Int → Int → Int → Int → Option (Bool × List Int)
  | 0, _, _, _, _, _, _, _, _, _, _ => none
  | k + 1, x0, x8, x32, x33, x34, x213000, x213001, x213002, x213003, x213004 => if x34 < x33 then (if 0 ≤ x34 then (if x34 < (x32.length : Int) then (if 0 ≤ (wrap64 (x213001 + x34)) then (if (wrap64 (x213001 + x34)) < (x8.length : Int) then (if 0 ≤ x213004 then (if 0 ≤ (rd x8 (wrap64 (x213001 + x34))) then (if (rd x8 (wrap64 (x213001 + x34))) < (x0.length : Int) then (impl_putFirst.l0 k (x0.set ((rd x8 (wrap64 (x213001 + x34))) : Int).toNat (shl .i64 (rd x32 x34) x213004)) x8 x32 x33 (wrap64 (x34 + 1)) x213000 x213001 x213002 x213003 x213004) else (none)) else (none)) else (none)) else (none)) else (none)) else (none)) else (none)) else (some (true, x0))
end
def impl_putFirst.f (k : Nat) (l0 : List Int) (l1_0 : List Int) (a1_1 : Int) (a1_2 : Int) (a1_3 : Int) (a1_4 : Int) (l2 : List Int) : Option (Bool × List Int) := if 0 ≤ a1_4 then ((impl_zigZag.f k).bind fun t213 => (if (l2.length : Int) = (wrap64 ((wrap64 (a1_2 - a1_1)) + 1)) then ((impl_allWithin.f k l2 (-(shr .i64 16383 a1_4)) (shr .i64 16383 a1_4)).bind fun t216 => (impl_putFirst.j0 k l0 l2 t213 (!t216) l1_0 a1_1 a1_2 a1_3 a1_4)) else (impl_putFirst.j0 k l0 l2 t213 true l1_0 a1_1 a1_2 a1_3 a1_4))) else (none)
def impl_putFirst.T7 : Bool × List (List Nat × List Nat) := (true, [([], []), ([], []), ([], []), ([2], [2]), ([], []), ([3, 4], [3, 4]), ([1, 5], [1, 5]), ([6], [6]), ([], []), ([], []), ([9], [9]), ([8, 10], [8, 10]), ([0, 7, 0, 1, 2, 3, 4, 5, 6, 7, 8, 9, 10, 11], [0, 7]), ([12, 11, 0, 1, 2, 3, 4, 5, 6, 7, 8, 9, 10, 11], [11, 12])])
def impl_putFirst.B7 : List Nat := [0, 0, 0, 4, 0, 28, 62, 126, 0, 0, 512, 1792, 4095, 8191]
theorem impl_putFirst.tab7 : rtab .any (opsOf Try.f78 7) = impl_putFirst.T7 := by kernel_rfl
theorem impl_putFirst.bits7 : waitsOk impl_putFirst.T7.2 impl_putFirst.B7 = true := by kernel_rfl
set_option maxHeartbeats 8000000 in
set_option maxRecDepth 100000 in
theorem impl_putFirst.calls (k : Nat) (P0_ : Nat → Prop) (u9000_ : Value) (l0 : List Int) (A1_0 : Option Addr) (c1_0 : Nat) (l1_0 : List Int) (a1_1 : Int) (a1_2 : Int) (a1_3 : Int) (a1_4 : Int) (A2 : Option Addr) (c2 : Nat) (l2 : List Int) (r1 : Bool) (r2 : List Int) (w0 w : World) (hB : Below w0.heap.size w0 w) (ho0 : Kd.R (Kd.int .i64) 3 w w0.heap.size P0_ u9000_ l0) (hr1_0 : ∀ W_, Kept w W_ (fun k_ => P0_ k_) → Kd.C (Kd.int .i64) W_ A1_0 l1_0.length l1_0) (hc1_0 : l1_0.length ≤ c1_0) (hr2 : ∀ W_, Kept w W_ (fun k_ => P0_ k_) → Kd.C (Kd.int .i64) W_ A2 l2.length l2) (hc2 : l2.length ≤ c2) (h : impl_putFirst.f k l0 l1_0 a1_1 a1_2 a1_3 a1_4 l2 = some (r1, r2)) :
  Calls Try.prog 78 #[u9000_, .agg #[.slice A1_0 l1_0.length c1_0, .int .i64 a1_1, .int .i64 a1_2, .int .i64 a1_3, .int .i64 a1_4], .slice A2 l2.length c2] w fun e w' => e = .returned (.bool r1) ∧ Kd.R (Kd.int .i64) 3 w' w0.heap.size (fun k_ => (P0_ k_ ∨ w.heap.size ≤ k_)) u9000_ r2 ∧ Below w0.heap.size w0 w' ∧ Kept w w' (fun k_ => P0_ k_) := by
 have hu28 := Try.underlying28
 have HO0 := aM (show Kd.R (Kd.int .i64) 3 w w0.heap.size (fun k_ => (P0_ k_ ∨ w.heap.size ≤ k_)) u9000_ l0 from Kd.R_mono ho0 (fun k_ hk => (.inl hk)))
 have HR1_0 := aM hr1_0
 have HC1_0 := aM hc1_0
 clear hr1_0 hc1_0
 have HR2 := aM hr2
 have HC2 := aM hc2
 clear hr2 hc2
 have HK := aM (Kept.refl w (fun k_ => P0_ k_))
 have HW0 := aM hB.size
 have HB := aM hB
 clear hB
 have H : (if 0 ≤ a1_4 then ((impl_zigZag.f k).bind fun t213 => (if (l2.length : Int) = (wrap64 ((wrap64 (a1_2 - a1_1)) + 1)) then ((impl_allWithin.f k l2 (-(shr .i64 16383 a1_4)) (shr .i64 16383 a1_4)).bind fun t216 => (impl_putFirst.j0 k l0 l2 t213 (!t216) l1_0 a1_1 a1_2 a1_3 a1_4)) else (impl_putFirst.j0 k l0 l2 t213 true l1_0 a1_1 a1_2 a1_3 a1_4))) else (none)) = some (r1, r2) := h
 clear h
 by_cases c4 : 0 ≤ a1_4
 ·rw [if_pos c4] at H
  have c4b0 := eq_true c4
  have c4b1 : decide (0 ≤ a1_4) = true := decide_eq_true c4
  clear c4
  obtain ⟨ji5, hji5⟩ : ∃ j_ : Int, (shr .i64 16383 a1_4) = j_ := ⟨_, rfl⟩
  have hji5A : 0 ≤ ji5 := by rw [← hji5]; exact shr_lo (by decide)
  have hji5B : ji5 ≤ 16383 := by rw [← hji5]; exact shr_hi (by decide)
  replace H : ((impl_zigZag.f k).bind fun t213 => (if (l2.length : Int) = (wrap64 ((wrap64 (a1_2 - a1_1)) + 1)) then ((impl_allWithin.f k l2 (-(ji5)) (ji5)).bind fun t216 => (impl_putFirst.j0 k l0 l2 t213 (!t216) l1_0 a1_1 a1_2 a1_3 a1_4)) else (impl_putFirst.j0 k l0 l2 t213 true l1_0 a1_1 a1_2 a1_3 a1_4))) = some (r1, r2) := by first | (rw [hji5] at H; exact H) | (simp only [hji5] at H ⊢; exact H)
  have hji5_ : (16383 / 2 ^ min a1_4.toNat 64) = ji5 := hji5
  have hji5z : a1_4 ≤ 64 → (16383 / 2 ^ a1_4.toNat) = ji5 := shr_small hji5
  obtain ⟨t213, A6, H⟩ := oH H
  have HC7 := aM H
  clear H
  go_enter Try.func78, Try.ntmps78
  try go_wp2_with (first | ((with_reducible refine gate_dst (N := 4) rfl ?_); refine box_event ?hg (N := 4) ?hd (cs := #[.slice A1_0 l1_0.length c1_0, .int .i64 a1_1, .int .i64 a1_2, .int .i64 a1_3, .int .i64 a1_4]) (t := 28) ?hr ?_; (case hd => rfl); (case hg => rfl); (case hr => first | (go_simp; done) | (go_simp; rfl)); intro gb212 hg w8 hbox hb; replace HO0 := aM (Kd.R_below (by (with_reducible repeat (first | apply Kd.R_alloc | apply Kd.R_drewN | apply Kd.R_drew)); exact HO0.out) hb); have BK212 := aM hbox; have GW212 := aM ((by rw [hg]; exact (by first | exact HK.out.1 | exact (show Kept w _ (fun k_ => P0_ k_) from by repeat (first | (with_reducible first | exact HK.out | apply Kept.alloc | apply Kept.drewN | apply Kept.drew) | exact HK.out)).1) : w.heap.size ≤ gb212)); replace HK := aM (Kept.below (S := (fun k_ => P0_ k_)) (by repeat (first | (with_reducible first | exact HK.out | apply Kept.alloc | apply Kept.drewN | apply Kept.drew) | exact HK.out)) hb); have GE212 := aM (zG hg : w0.heap.size ≤ gb212); replace HB := cH HB hb; clear hb hbox hg))
  have n0_ := aM (Kd.R_drew HO0.out)
  have n1_ := aM (kD BK212.out)
  have n2_ := aM (Kept.drew HK.out)
  have n3_ := aM (b1 HB.out)
  clear HO0
  clear BK212
  clear HK
  clear HB
  have HO0 := n0_
  have BK212 := n1_
  have HK := n2_
  have HB := n3_
  clear n0_ n1_ n2_ n3_
  refine start_ (n := 6) (S := fun w' => w'.cell? ⟨gb212, 0, none⟩ = some (.slice A1_0 l1_0.length c1_0) ∧ w'.cell? ⟨gb212, 1, none⟩ = some (.int .i64 a1_1) ∧ w'.cell? ⟨gb212, 2, none⟩ = some (.int .i64 a1_2) ∧ w'.cell? ⟨gb212, 3, none⟩ = some (.int .i64 a1_3) ∧ w'.cell? ⟨gb212, 4, none⟩ = some (.int .i64 a1_4)) (ds := []) #[false, false, false, false, false, false] (by kernel_rfl) rfl rfl ⟨(kC BK212.out 0).trans rfl, (kC BK212.out 1).trans rfl, (kC BK212.out 2).trans rfl, (kC BK212.out 3).trans rfl, (kC BK212.out 4).trans rfl⟩ (fun hHeld => ?_)
  generalize w8.drew = w9 at HO0 BK212 HK HB hHeld ⊢
  refine pure_ (i := 0) (N := some 11) (v := ?_) (a' := ?_) #[true, false, false, false, false, false] rfl rfl (by kernel_rfl) (fun _ _ _ h => h) (Or.inl ⟨by rfl, ?_⟩) ?_ ?_
  rotate_left
  ·intro w'
   go_simp
   with_reducible rfl
  rotate_left
  ·simp only [Act.put, List.setIfInBounds_toArray, List.set_cons_zero, List.set_cons_succ, i64_w, i32_w]
   rfl
  refine take_ (i := 1) (N := some 12) (v := ?_) (a' := ?_) #[true, true, false, false, false, false] rfl rfl (by kernel_rfl) (fun _ _ _ h => h) (Or.inl ⟨by rfl, ?_⟩) hHeld ?_ ?_
  rotate_left
  ·rintro w' ⟨s0, s1, s2, s3, s4⟩
   go_simp
   with_reducible rfl
  rotate_left
  ·simp only [Act.put, List.setIfInBounds_toArray, List.set_cons_zero, List.set_cons_succ, i64_w, i32_w]
   rfl
  refine pure_ (i := 2) (N := some 13) (v := ?_) (a' := ?_) #[true, true, true, false, false, false] rfl rfl (by kernel_rfl) (fun _ _ _ h => h) (Or.inl ⟨by rfl, ?_⟩) ?_ ?_
  rotate_left
  ·intro w'
   go_simp
   with_reducible rfl
  rotate_left
  ·simp only [Act.put, List.setIfInBounds_toArray, List.set_cons_zero, List.set_cons_succ, i64_w, i32_w]
   rfl
  refine one_ (i := 3) (N := some 14) #[true, true, true, true, false, false] rfl rfl (by kernel_rfl) (by decide) (fun K hK => ?_)
  refine zGo Try.func118 #[] ?_
  with_reducible refine (impl_zigZag.calls k  t213 _ A6.out).mono ?_
  rintro e w10 ⟨v214, rfl, ho0, hb⟩
  refine ⟨_, rfl, ?_⟩
  have n0_ := aM (Kd.R_elder' (by (with_reducible repeat (first | apply Kd.R_alloc | apply Kd.R_drewN | apply Kd.R_drew)); exact HO0.out) (Kd.R_base ho0) hb)
  have n1_ := aM (Kd.R_lower (Kd.R_new' (Kd.R_newM (M := fun k_ => (P0_ k_ ∨ w.heap.size ≤ k_)) ho0 (by first | exact HK.out.1 | exact (show Kept w _ (fun k_ => P0_ k_) from by repeat (first | (with_reducible first | exact HK.out | apply Kept.alloc | apply Kept.drewN | apply Kept.drew | refine Kept.setCell ?_ (.inr GW212.out) _) | exact HK.out)).1) (fun k_ h_ => .inr h_)) (Kd.R_lt (by (with_reducible repeat (first | apply Kd.R_alloc | apply Kd.R_drewN | apply Kd.R_drew)); exact HO0.out))) (below_size zH))
  have n2_ := cB BK212 hb
  have n3_ := aM (Kept.below (S := (fun k_ => P0_ k_)) (by repeat (first | (with_reducible first | exact HK.out | apply Kept.alloc | apply Kept.drewN | apply Kept.drew | refine Kept.setCell ?_ (.inr GW212.out) _) | exact HK.out)) hb)
  have n4_ := cH HB hb
  clear HO0
  clear BK212
  clear HK
  clear HB
  have HO0 := n0_
  have HO215 := n1_
  have BK212 := n2_
  have HK := n3_
  have HB := n4_
  clear n0_ n1_ n2_ n3_ n4_
  (try clear hb)
  (try clear hb2)
  (try clear hk)
  (try clear hi)
  (try clear ho0)
  refine hK.out _ _ ⟨(kC BK212.out 0).trans rfl, (kC BK212.out 1).trans rfl, (kC BK212.out 2).trans rfl, (kC BK212.out 3).trans rfl, (kC BK212.out 4).trans rfl⟩ (fun hHeld => ?_)
  clear hK K
  refine zNo (some 14) ?_
  refine pure_ (i := 4) (N := some 7) (v := ?_) (a' := ?_) #[true, true, true, true, true, false] rfl rfl (by kernel_rfl) (fun _ _ _ h => h) (Or.inl ⟨by rfl, ?_⟩) ?_ ?_
  rotate_left
  ·intro w'
   go_simp
   with_reducible rfl
  rotate_left
  ·simp only [Act.put, List.setIfInBounds_toArray, List.set_cons_zero, List.set_cons_succ, i64_w, i32_w]
   rfl
  refine pure_ (i := 5) (N := some 8) (v := ?_) (a' := ?_) #[true, true, true, true, true, true] rfl rfl (by kernel_rfl) (fun _ _ _ h => h) (Or.inl ⟨by rfl, ?_⟩) ?_ ?_
  rotate_left
  ·intro w'
   go_simp
   with_reducible rfl
  rotate_left
  ·simp only [Act.put, List.setIfInBounds_toArray, List.set_cons_zero, List.set_cons_succ, i64_w, i32_w]
   rfl
  refine done_ (by kernel_rfl) ?_
  go_upto_region 2 with (fail)
  go_cut [31] (fun v31 wc => ∃ (kq : Nat) (x31_6 : Bool), v31 = .bool x31_6 ∧ Aside0 (impl_putFirst.j0 kq l0 l2 t213 x31_6 l1_0 a1_1 a1_2 a1_3 a1_4 = some (r1, r2)) ∧ Aside0 (kq ≤ k) ∧ Aside0 (Kd.R (Kd.int .i64) 3 wc w0.heap.size (fun k_ => (P0_ k_ ∨ w.heap.size ≤ k_) ∧ some k_ ≠ (v214 : Value).ownBlock) u9000_ l0) ∧ Aside0 (Kd.R (Kd.int .i64) 3 wc w0.heap.size (fun k_ => (P0_ k_ ∨ w.heap.size ≤ k_) ∧ some k_ ≠ (u9000_ : Value).ownBlock) v214 t213) ∧ Aside0 (wc.heap[gb212]? = some (.cells #[(.slice A1_0 l1_0.length c1_0), .int .i64 a1_1, .int .i64 a1_2, .int .i64 a1_3, .int .i64 a1_4] 28 (0, 0))) ∧ Aside0 (Kept w wc (fun k_ => P0_ k_)) ∧ Aside0 (Below w0.heap.size w0 wc))
  case first =>
   have H := HC7.out
   clear HC7
   by_cases c11 : (l2.length : Int) = (wrap64 ((wrap64 (a1_2 - a1_1)) + 1))
   ·rw [if_pos c11] at H
    have c11b0 : ((l2.length : Int) == (wrap64 ((wrap64 (a1_2 - a1_1)) + 1))) = true := beq_iff_eq.mpr c11
    have c11b1 : ((l2.length : Int) != (wrap64 ((wrap64 (a1_2 - a1_1)) + 1))) = false := bne_eq_false_iff_eq.mpr c11
    clear c11
    (first | rw [c11b0] | (simp only [i64_w, i32_w]; rw [c11b0]) | skip)
    obtain ⟨t216, A12, H⟩ := oH H
    have H' := aM H
    clear H
    obtain ⟨hcz13_0, hcz13_1, hcz13_2, hcz13_3, hcz13_4⟩ := kk5 BK212
    obtain ⟨hfz13_0, hfz13_1, hfz13_2, hfz13_3, hfz13_4⟩ := kg5 BK212
    go_wp2_with (first | (go_at_call 111; (with_reducible refine (impl_allWithin.calls k _ _ l2 (-(ji5)) ji5 t216 _ ?side1 ?side2 A12.out).mono ?_); (case side1 => exact Kd.C_kept_now HR2.out (by repeat (first | (with_reducible first | exact HK.out | apply Kept.alloc | apply Kept.drewN | apply Kept.drew | refine Kept.setCell ?_ (.inr GW212.out) _) | exact HK.out))); (case side2 => exact HC2.out); rintro e w' ⟨rfl, ⟨nd, rfl⟩⟩))
    go_meet
    case rel => exact ⟨_, (!t216), zS, H', zO, ⟨by (with_reducible repeat (first | apply Kd.R_alloc | apply Kd.R_drewN | apply Kd.R_drew)); exact HO0.out⟩, ⟨by (with_reducible repeat (first | apply Kd.R_alloc | apply Kd.R_drewN | apply Kd.R_drew)); exact Kd.R_mono HO215.out (fun _ hk => ⟨hk.1.1, hk.2⟩)⟩, ⟨zK BK212⟩, ⟨by repeat (first | (with_reducible first | exact HK.out | apply Kept.alloc | apply Kept.drewN | apply Kept.drew | refine Kept.setCell ?_ (.inr GW212.out) _) | exact HK.out)⟩, ⟨zH⟩⟩
   ·rw [if_neg c11] at H
    have c11b0 : ((l2.length : Int) == (wrap64 ((wrap64 (a1_2 - a1_1)) + 1))) = false := beq_eq_false_iff_ne.mpr c11
    have c11b1 : ((l2.length : Int) != (wrap64 ((wrap64 (a1_2 - a1_1)) + 1))) = true := bne_iff_ne.mpr c11
    (first | rw [c11b0] | (simp only [i64_w, i32_w]; rw [c11b0]) | skip)
    have H' := aM H
    clear H
    obtain ⟨hcz14_0, hcz14_1, hcz14_2, hcz14_3, hcz14_4⟩ := kk5 BK212
    obtain ⟨hfz14_0, hfz14_1, hfz14_2, hfz14_3, hfz14_4⟩ := kg5 BK212
    go_wp2
    go_meet
    case rel => exact ⟨_, (true), zS, H', zO, ⟨by (with_reducible repeat (first | apply Kd.R_alloc | apply Kd.R_drewN | apply Kd.R_drew)); exact HO0.out⟩, ⟨by (with_reducible repeat (first | apply Kd.R_alloc | apply Kd.R_drewN | apply Kd.R_drew)); exact Kd.R_mono HO215.out (fun _ hk => ⟨hk.1.1, hk.2⟩)⟩, ⟨zK BK212⟩, ⟨by repeat (first | (with_reducible first | exact HK.out | apply Kept.alloc | apply Kept.drewN | apply Kept.drew | refine Kept.setCell ?_ (.inr GW212.out) _) | exact HK.out)⟩, ⟨zH⟩⟩
  case rest =>
   clear HC7
   (try clear c2); (try clear c4b0); (try clear c4b1)
   obtain ⟨kq, x31_6, rfl, HA, HJ6, HO_0, HO_8, BK212, HK, HB⟩ := hcut
   cases kq with
   | zero => exact absurd HA.out (by simp [impl_putFirst.j0])
   | succ kj6 =>
    have H := HA.out
    clear HA
    simp only [impl_putFirst.j0] at H
    by_cases c15 : x31_6 = true
    ·subst c15
     replace H := iT H
     simp only [Option.some.injEq, Prod.mk.injEq] at H
     obtain ⟨rfl, rfl⟩ := H
     go_wp2
     go_ret
     exact ⟨by first | rfl | (simp [errW_none, errW_some] <;> rfl) | (simp only [← hji5]; first | rfl | (simp [errW_none, errW_some] <;> rfl)) | (simp [*, errW_none, errW_some] <;> rfl), by (with_reducible repeat (first | apply Kd.R_alloc | apply Kd.R_drewN | apply Kd.R_drew)); exact Kd.R_mono HO_0.out (fun _ hk => hk.1), zH, by repeat (first | (with_reducible first | exact HK.out | apply Kept.alloc | apply Kept.drewN | apply Kept.drew | refine Kept.setCell ?_ (.inr GW212.out) _) | exact HK.out)⟩
    ·replace c15 := Bool.eq_false_iff.mpr c15
     subst c15
     replace H := iF H
     have H' := aM H
     clear H
     go_wp2
     go_loopg [34] kj6 (fun kq v34 w' => ∃ (x0_2 : List Int) (x34_2 : Int), v34 = .int .i64 x34_2 ∧ Aside0 (impl_putFirst.l0 kq x0_2 t213 l2 (l2.length : Int) x34_2 l1_0 a1_1 a1_2 a1_3 a1_4 = some (r1, r2)) ∧ Aside0 (kq ≤ kj6) ∧ Aside0 (Kd.R (Kd.int .i64) 3 w' w0.heap.size (fun k_ => (P0_ k_ ∨ w.heap.size ≤ k_) ∧ some k_ ≠ (v214 : Value).ownBlock) u9000_ x0_2) ∧ Aside0 (Kd.R (Kd.int .i64) 3 w' w0.heap.size (fun k_ => (P0_ k_ ∨ w.heap.size ≤ k_) ∧ some k_ ≠ (u9000_ : Value).ownBlock) v214 t213) ∧ Aside0 (w'.heap[gb212]? = some (.cells #[(.slice A1_0 l1_0.length c1_0), .int .i64 a1_1, .int .i64 a1_2, .int .i64 a1_3, .int .i64 a1_4] 28 (0, 0))) ∧ Aside0 (Kept w w' (fun k_ => P0_ k_)) ∧ Aside0 (Below w0.heap.size w0 w'))
     case atStart => exact ⟨(l0), (0), zS, H', ⟨Nat.le_refl _⟩, ⟨by (with_reducible repeat (first | apply Kd.R_alloc | apply Kd.R_drewN | apply Kd.R_drew)); exact HO_0.out⟩, ⟨by (with_reducible repeat (first | apply Kd.R_alloc | apply Kd.R_drewN | apply Kd.R_drew)); exact HO_8.out⟩, ⟨zK BK212⟩, ⟨by repeat (first | (with_reducible first | exact HK.out | apply Kept.alloc | apply Kept.drewN | apply Kept.drew | refine Kept.setCell ?_ (.inr GW212.out) _) | exact HK.out)⟩, ⟨zH⟩⟩
     case round =>
      clear H'
      try clear c15
      obtain ⟨x0_2, x34_2, rfl, HA, HK2, HO_0, HO_8, BK212, HK, HB⟩ := hrel
      cases gk with
      | zero => exact absurd HA.out (by simp [impl_putFirst.l0])
      | succ k2 =>
       have H := HA.out
       clear HA
       simp only [impl_putFirst.l0] at H
       by_cases c16 : x34_2 < (l2.length : Int)
       ·rw [if_pos c16] at H
        have c16b0 : decide (x34_2 < (l2.length : Int)) = true := decide_eq_true c16
        clear c16
        by_cases c17 : 0 ≤ x34_2
        ·rw [if_pos c17] at H
         have c17b0 : decide (0 ≤ x34_2) = true := decide_eq_true c17
         clear c17
         by_cases c18 : x34_2 < (l2.length : Int)
         ·rw [if_pos c18] at H
          have c18b0 : decide (x34_2 < (l2.length : Int)) = true := decide_eq_true c18
          clear c18
          obtain ⟨ji19, hji19⟩ : ∃ j_ : Int, (wrap64 (a1_1 + x34_2)) = j_ := ⟨_, rfl⟩
          replace H : (if 0 ≤ (ji19) then (if (ji19) < (t213.length : Int) then (if 0 ≤ a1_4 then (if 0 ≤ (rd t213 (ji19)) then (if (rd t213 (ji19)) < (x0_2.length : Int) then (impl_putFirst.l0 k2 (x0_2.set ((rd t213 (ji19)) : Int).toNat (shl .i64 (rd l2 x34_2) a1_4)) t213 l2 (l2.length : Int) (wrap64 (x34_2 + 1)) l1_0 a1_1 a1_2 a1_3 a1_4) else (none)) else (none)) else (none)) else (none)) else (none)) = some (r1, r2) := by first | (rw [hji19] at H; exact H) | (simp only [hji19] at H ⊢; exact H)
          have hji19w : (IntKind.i64.wrap (a1_1 + x34_2)) = ji19 := (i64_w _).trans hji19
          by_cases c20 : 0 ≤ (ji19)
          ·rw [if_pos c20] at H
           have c20b0 : decide (0 ≤ (ji19)) = true := decide_eq_true c20
           clear c20
           by_cases c21 : (ji19) < (t213.length : Int)
           ·rw [if_pos c21] at H
            have c21b0 : decide ((ji19) < (t213.length : Int)) = true := decide_eq_true c21
            clear c21
            by_cases c22 : 0 ≤ a1_4
            ·rw [if_pos c22] at H
             have c22b0 := eq_true c22
             have c22b1 : decide (0 ≤ a1_4) = true := decide_eq_true c22
             clear c22
             obtain ⟨ji23, hji23⟩ : ∃ j_ : Int, (shl .i64 (rd l2 x34_2) a1_4) = j_ := ⟨_, rfl⟩
             replace H : (if 0 ≤ (rd t213 (ji19)) then (if (rd t213 (ji19)) < (x0_2.length : Int) then (impl_putFirst.l0 k2 (x0_2.set ((rd t213 (ji19)) : Int).toNat (ji23)) t213 l2 (l2.length : Int) (wrap64 (x34_2 + 1)) l1_0 a1_1 a1_2 a1_3 a1_4) else (none)) else (none)) = some (r1, r2) := by first | (rw [hji23] at H; exact H) | (simp only [hji23] at H ⊢; exact H)
             have hji23_ : (IntKind.i64.wrap ((rd l2 x34_2) * 2 ^ min a1_4.toNat 64)) = ji23 := hji23
             have hji23z : a1_4 ≤ 64 → (IntKind.i64.wrap ((rd l2 x34_2) * 2 ^ a1_4.toNat)) = ji23 := shl_small hji23
             have hji23y : (wrap64 ((rd l2 x34_2) * 2 ^ min a1_4.toNat 64)) = ji23 := (i64_w _).symm.trans hji23_
             have hji23x : a1_4 ≤ 64 → (wrap64 ((rd l2 x34_2) * 2 ^ a1_4.toNat)) = ji23 := fun h_ => (i64_w _).symm.trans (hji23z h_)
             by_cases c24 : 0 ≤ (rd t213 (ji19))
             ·rw [if_pos c24] at H
              have c24b0 : decide (0 ≤ (rd t213 (ji19))) = true := decide_eq_true c24
              clear c24
              by_cases c25 : (rd t213 (ji19)) < (x0_2.length : Int)
              ·rw [if_pos c25] at H
               have c25b0 : decide ((rd t213 (ji19)) < (x0_2.length : Int)) = true := decide_eq_true c25
               clear c25
               obtain ⟨y219, hy219⟩ : ∃ y_ : List Int, y_ = (x0_2.set ((rd t213 (ji19)) : Int).toNat (ji23)) := ⟨_, rfl⟩
               replace H : (impl_putFirst.l0 k2 y219 t213 l2 (l2.length : Int) (wrap64 (x34_2 + 1)) l1_0 a1_1 a1_2 a1_3 a1_4) = some (r1, r2) := by first | (rw [hy219]; with_reducible exact H) | (have H2_ := (Option.bind_some _ _).symm.trans H; rw [hy219]; with_reducible exact H2_) | (have H2_ := (Option.bind_some _ _).symm.trans H; with_reducible exact H2_) | with_reducible exact H | (rw [hy219]; exact H) | exact H
               have Ny219 := aM hy219
               clear hy219
               have H' := aM H
               clear H
               have p217 : 0 ≤ (x34_2 : Int) := zA
               have q217 : x34_2 < (l2.length : Int) := zA
               obtain ⟨ad217, e217, hx217_0⟩ := Kd.at_int (Kd.C_kept_now HR2.out HK.out) x34_2 p217 q217
               cases e217
               replace p217 := eq_true p217
               replace q217 := eq_true q217
               try go_wp2
               have n0_ := aM (Kd.R_drew HO_0.out)
               have n1_ := aM (Kd.R_drew HO_8.out)
               have n2_ := aM (kD BK212.out)
               have n3_ := aM (Kept.drew HK.out)
               have n4_ := aM (b1 HB.out)
               clear HO_0
               clear HO_8
               clear BK212
               clear HK
               clear HB
               have HO_0 := n0_
               have HO_8 := n1_
               have BK212 := n2_
               have HK := n3_
               have HB := n4_
               clear n0_ n1_ n2_ n3_ n4_
               obtain ⟨Ao28, co28, eo28⟩ := Kd.R_slice HO_8.out
               (first | subst eo28 | (injection eo28 with f1_ f2_ f3_; have f4_ := f1_.symm; have f5_ := f3_.symm; clear f1_ f2_ f3_; subst f4_; subst f5_))
               have p218 : 0 ≤ ((ji19) : Int) := zA
               have q218 : (ji19) < (t213.length : Int) := zA
               obtain ⟨ad218, e218, hx218_0⟩ := Kd.at_int (Kd.R_reads' HO_8.out).2.2 (ji19) p218 q218
               cases e218
               replace p218 := eq_true p218
               replace q218 := eq_true q218
               have p26 : 0 ≤ ((rd t213 (ji19)) : Int) := zA
               have q26 : ((rd t213 (ji19)) : Int) < ((x0_2.length : Int) : Int) := zA
               obtain ⟨go26, co26, eo26, gb26, gl26, cl26, HG26⟩ := Kd.R_form HO_0.out (by omega)
               (first | cases eo26 | (injection eo26 with ea_ en_ ec_; (first | subst ea_ | (injection ea_ with ea_; subst ea_)); subst ec_; clear en_))
               have GB26 := aM gb26
               have GG26 := aM HG26
               clear gb26 gl26 HG26
               have HMgo26 := aM (show (P0_ go26 ∨ w.heap.size ≤ go26) from (HO_0.out.1 _ rfl).1)
               obtain ⟨hx26_0, hf26_0⟩ := Kd.R_celln 0 HO_0.out ((rd t213 (ji19)) : Int) p26 q26
               replace p26 := eq_true p26
               replace q26 := eq_true q26
               have HP29 := Kd.R_putn HO_0.out ((rd t213 (ji19)) : Int) ji23
               rw [← Ny219.out] at HP29
               have HQ29 := aM HP29
               clear HP29
               refine start_ (n := 14) (S := fun w' => w'.cell? ⟨gb212, 0, none⟩ = some (.slice A1_0 l1_0.length c1_0) ∧ w'.cell? ⟨gb212, 1, none⟩ = some (.int .i64 a1_1) ∧ w'.cell? ⟨gb212, 2, none⟩ = some (.int .i64 a1_2) ∧ w'.cell? ⟨gb212, 3, none⟩ = some (.int .i64 a1_3) ∧ w'.cell? ⟨gb212, 4, none⟩ = some (.int .i64 a1_4) ∧ w'.cell? (ad218.add ((ji19)).toNat) = some (.int .i64 (rd t213 (ji19)))) (ds := [13]) #[false, false, false, false, false, false, false, false, false, false, false, false, false, false] (by kernel_rfl) rfl rfl ⟨(kC BK212.out 0).trans rfl, (kC BK212.out 1).trans rfl, (kC BK212.out 2).trans rfl, (kC BK212.out 3).trans rfl, (kC BK212.out 4).trans rfl, hx218_0⟩ (fun hHeld => ?_); refine with_tabW impl_putFirst.tab7 impl_putFirst.bits7 (fun HT_ HW_ => ?_)
               generalize wr.drew = w27 at HO_0 HO_8 BK212 HK HB GG26 HQ29 hf26_0 hx218_0 hx26_0 hHeld ⊢
               refine zP 0 (some 39) HT_ ?_
               refine zP 1 (some 40) HT_ ?_
               refine zP 2 (some 41) HT_ ?_
               refine zP 4 (some 43) HT_ ?_
               refine zP 8 (some 47) HT_ ?_
               refine zP 9 (some 48) HT_ ?_
               refine zT 3 (some 42) HT_ HW_ hHeld (hy := Or.inl ⟨by rfl, by rintro w' ⟨s0, s1, s2, s3, s4, s5⟩; go_simp; with_reducible rfl⟩) (h := ?_)
               refine zP 5 (some 44) HT_ ?_
               refine zP 6 (some 45) HT_ ?_
               refine zT 7 (some 46) HT_ HW_ hHeld (hy := Or.inl ⟨by rfl, by rintro w' ⟨s0, s1, s2, s3, s4, s5⟩; go_simp; with_reducible rfl⟩) (h := ?_)
               refine zT 10 (some 49) HT_ HW_ hHeld (hy := Or.inl ⟨by rfl, by rintro w' ⟨s0, s1, s2, s3, s4, s5⟩; go_simp; with_reducible rfl⟩) (h := ?_)
               refine zP 11 (some 50) HT_ ?_
               refine zP 12 (some 51) HT_ ?_
               refine last_ (i := 13) (N := none) #[true, true, true, true, true, true, true, true, true, true, true, true, true, true] rfl rfl (one_of HT_.out (by kernel_rfl)) (by decide) (fun K hK => ?_)
               refine skip_ (w1 := ?_) (by rfl) rfl ?_ ?_
               rotate_left
               ·go_simp
                rfl
               refine hK.out _ _ ?_
               clear hK K
               refine done_ (done_of HT_.out (by kernel_rfl)) ?_
               try go_wp2
               go_roundg k2
               case measure => have := HJ6.out; have := HK2.out; omega
               case rel => exact ⟨(y219), (wrap64 (x34_2 + 1)), zS, H', ⟨by have := HJ6.out; have := HK2.out; omega⟩, ⟨by (with_reducible repeat (first | apply Kd.R_alloc | apply Kd.R_drewN | apply Kd.R_drew)); exact HQ29.out⟩, ⟨by (with_reducible repeat (first | apply Kd.R_alloc | apply Kd.R_drewN | apply Kd.R_drew)); exact Kd.R_mono (Kd.R_far (p := ⟨go26, ((rd t213 (ji19)) : Int).toNat, none⟩) (Kd.R_mono HO_8.out (fun k_ hk => (⟨hk, fun e_ => hk.2 (by rw [e_]; rfl)⟩ : _ ∧ k_ ≠ go26))) (fun _ hk => hk.2) (.int .i64 ji23)) (fun _ hk => ⟨hk.1.1, hk.1.2⟩)⟩, ⟨by (with_reducible repeat (first | apply kN | apply kD | apply kA)); refine blk_far ?_ (by have h_ := Kd.R_ne HO_0.out BK212.out (by decide); intro e_; exact h_ (by rw [e_]; rfl)) _; (with_reducible repeat (first | apply kN | apply kD | apply kA)); exact BK212.out⟩, ⟨by repeat (first | (with_reducible first | exact HK.out | apply Kept.alloc | apply Kept.drewN | apply Kept.drew | refine Kept.setCell ?_ HMgo26.out _ | refine Kept.setCell ?_ (.inr GW212.out) _) | exact HK.out)⟩, ⟨by repeat (first | (with_reducible first | exact HB.out | apply bA | apply bN | apply b1 | refine bS ?_ GB26.out | refine bS ?_ GE212.out) | exact HB.out)⟩⟩
              ·rw [if_neg c25] at H
               exact absurd H (by simp)
             ·rw [if_neg c24] at H
              exact absurd H (by simp)
            ·rw [if_neg c22] at H
             exact absurd H (by simp)
           ·rw [if_neg c21] at H
            exact absurd H (by simp)
          ·rw [if_neg c20] at H
           exact absurd H (by simp)
         ·rw [if_neg c18] at H
          exact absurd H (by simp)
        ·rw [if_neg c17] at H
         exact absurd H (by simp)
       ·rw [if_neg c16] at H
        have c16b0 : decide (x34_2 < (l2.length : Int)) = false := decide_eq_false c16
        clear c16
        simp only [Option.some.injEq, Prod.mk.injEq] at H
        obtain ⟨rfl, rfl⟩ := H
        go_wp2
        go_ret
        exact ⟨by first | rfl | (simp [errW_none, errW_some] <;> rfl) | (simp only [← hji5]; first | rfl | (simp [errW_none, errW_some] <;> rfl)) | (simp [*, errW_none, errW_some] <;> rfl), by (with_reducible repeat (first | apply Kd.R_alloc | apply Kd.R_drewN | apply Kd.R_drew)); exact Kd.R_mono HO_0.out (fun _ hk => hk.1), zH, by repeat (first | (with_reducible first | exact HK.out | apply Kept.alloc | apply Kept.drewN | apply Kept.drew | refine Kept.setCell ?_ (.inr GW212.out) _) | exact HK.out)⟩
 ·rw [if_neg c4] at H
  exact absurd H (by simp)

theorem put_set (b list : List Int) (f low : Int) (m j : Nat) (hj : f + m = j) (hm : j < 64) :
    (mapR (putF b list f low m)).set (rd zzL (j : Int)).toNat (rd list (m : Int) * 2 ^ low.toNat) = mapR (putF b list f low (m + 1)) := by
  have hr := zz_rd j hm
  rw [mapR_set]
  refine mapR_congr fun p hp => ?_
  obtain ⟨h1, h2⟩ := zi_all hp
  unfold putF
  by_cases e : p = (rd zzL (j : Int)).toNat
  · have hz := zz_zi hm
    rw [← e] at hz
    rw [if_pos e, if_pos ⟨by omega, by omega⟩, show (zi p : Int) - f = m from by omega]
  · rw [if_neg e]
    have hne : zi p ≠ j := fun h => e (by rw [h] at h2; omega)
    by_cases h : f ≤ (zi p : Int) ∧ (zi p : Int) < f + m
    · rw [if_pos h, if_pos ⟨h.1, by omega⟩]
    · rw [if_neg h, if_neg (fun h3 => h ⟨h3.1, by omega⟩)]
theorem iPut_l0 (b list c : List Int) (f t h low : Int) (h0 : 0 ≤ f) (h1 : f ≤ t) (h2 : t ≤ 63) (h3 : 0 ≤ low) (h4 : low ≤ 13) (hl : (list.length : Int) = t - f + 1) (ha : ∀ n ∈ list, putB n low = true) :
    ∀ (d m : Nat), m + d = list.length → Ev (fun k => impl_putFirst.l0 k (mapR (putF b list f low m)) zzL list (list.length : Int) m c f t h low) (true, mapR (putF b list f low list.length)) := by
  intro d
  induction d with
  | zero =>
    intro m hm
    obtain rfl : m = list.length := by omega
    exact Ev.step (fun k => by rw [impl_putFirst.l0]) (evNeg (by omega) (Ev.now _))
  | succ d ih =>
    intro m hm
    have hml : m < list.length := by omega
    obtain ⟨j, hj⟩ : ∃ j : Nat, f + m = j := ⟨(f + m).toNat, by omega⟩
    have hz := zz_rd j (by omega)
    have hp : putB (rd list (m : Int)) low = true := by rw [rd_nat hml]; exact ha _ (List.getElem_mem hml)
    obtain ⟨es, _⟩ := shl_mul (rd list (m : Int)) low (putB_iff.1 hp).1 h3 h4
    refine Ev.step (fun k => by rw [impl_putFirst.l0]) ?_
    rw [hj, w64n (n := j) (by omega), es, put_set b list f low m j hj (by omega), w64 (x := (m : Int) + 1) (by omega) (by omega)]
    refine evPos (by omega) (evPos (by omega) (evPos (by omega) (evPos (by omega) (evPos (by rw [zzL_length]; omega) (evPos h3 (evPos hz.1 (evPos (by rw [mapR_length]; omega) ?_)))))))
    exact ih (m + 1) (by omega)
theorem iPut_f (b list c : List Int) (f t h l : Int) (hb : b.length = 64) (hp : passB f t h l = true) (hlen : list.length ≤ 1048576) :
    Ev (fun k => impl_putFirst.f k b c f t h l list) (if (list.length : Int) = t - f + 1 ∧ list.all (fun n => putB n l) = true then (true, mapR (putF b list f l list.length)) else (false, b)) := by
  obtain ⟨p1, p2, p3, p4, p5, _⟩ := pass_bounds hp
  unfold impl_putFirst.f
  refine evPos p4 (evBind izz_f ?_)
  rw [w64 (x := t - f) (by omega) (by omega), w64 (by omega) (by omega)]
  refine evIf (fun he => ?_) (fun he => ?_)
  · have hs : shr .i64 16383 l = 16383 / 2 ^ l.toNat := shr_of p4 (by omega)
    have hall : allR list (-(shr .i64 16383 l)) (shr .i64 16383 l) = list.all (fun n => putB n l) := by
      unfold allR
      rw [hs]
      congr 1
      funext n
      exact putB_in n l p4 p5
    refine evBind (allWithin_f list _ _ (by unfold maxLen; omega)) ?_
    rw [hall]
    by_cases ha : list.all (fun n => putB n l) = true
    · rw [ha, if_pos ⟨he, rfl⟩]
      refine Ev.step (fun k => by rw [impl_putFirst.j0]) (evNeg (by simp) ?_)
      have := iPut_l0 b list c f t h l p1 p2 p3 p4 p5 he (fun n hn => List.all_eq_true.1 ha n hn) list.length 0 (by omega)
      rw [mapR_congr (f := fun p => rd b (p : Int)) (fun p _ => by unfold putF; rw [if_neg (by omega)]), mapR_self hb] at this
      exact this
    · rw [Bool.eq_false_iff.2 ha, if_neg (by simp)]
      exact Ev.step (fun k => by rw [impl_putFirst.j0]) (evPos (show (!false) = true from rfl) (Ev.now _))
  · rw [if_neg (fun h => he h.1)]
    exact Ev.step (fun k => by rw [impl_putFirst.j0]) (evPos rfl (Ev.now _))

/-! ### impl_PutFirst: function 26 -/
def impl_PutFirst.j0 : Nat → List Int → List Int → Bool → List Int → Int → Int → Int → Int → Option (List Int)
  | 0, _, _, _, _, _, _, _, _ => none
  | k + 1, x0, x2, x20, x221000, x221001, x221002, x221003, x221004 => if x20 = true then (some ([] : List Int)) else ((some (([] : List Int) : List Int)).bind fun y223 => (if y223.length + x0.length < 17592186044416 then ((impl_putFirst.f k (y223 ++ x0) x221000 x221001 x221002 x221003 x221004 x2).bind fun bt229 => (if bt229.1 = true then (some bt229.2) else (some ([] : List Int)))) else (none)))
def impl_PutFirst.f (k : Nat) (l0 : List Int) (l1_0 : List Int) (a1_1 : Int) (a1_2 : Int) (a1_3 : Int) (a1_4 : Int) (l2 : List Int) : Option (List Int) := (impl_isLevels.f k l0).bind fun t221 => (if t221 = true then ((impl_Scan_isPass.f l1_0 a1_1 a1_2 a1_3 a1_4).bind fun t222 => (if t222 = true then (impl_PutFirst.j0 k l0 l2 (a1_3 != 0) l1_0 a1_1 a1_2 a1_3 a1_4) else (impl_PutFirst.j0 k l0 l2 true l1_0 a1_1 a1_2 a1_3 a1_4))) else (impl_PutFirst.j0 k l0 l2 true l1_0 a1_1 a1_2 a1_3 a1_4))
set_option maxHeartbeats 8000000 in
set_option maxRecDepth 100000 in
theorem impl_PutFirst.calls (k : Nat) (A0 : Option Addr) (c0 : Nat) (l0 : List Int) (A1_0 : Option Addr) (c1_0 : Nat) (l1_0 : List Int) (a1_1 : Int) (a1_2 : Int) (a1_3 : Int) (a1_4 : Int) (A2 : Option Addr) (c2 : Nat) (l2 : List Int) (r : List Int) (w : World) (hr0 : Kd.C (Kd.int .i64) w A0 l0.length l0) (hc0 : l0.length ≤ c0) (hr1_0 : Kd.C (Kd.int .i64) w A1_0 l1_0.length l1_0) (hc1_0 : l1_0.length ≤ c1_0) (hr2 : Kd.C (Kd.int .i64) w A2 l2.length l2) (hc2 : l2.length ≤ c2) (h : impl_PutFirst.f k l0 l1_0 a1_1 a1_2 a1_3 a1_4 l2 = some r) :
  Calls Try.prog 26 #[.slice A0 l0.length c0, .agg #[.slice A1_0 l1_0.length c1_0, .int .i64 a1_1, .int .i64 a1_2, .int .i64 a1_3, .int .i64 a1_4], .slice A2 l2.length c2] w fun e w' => ∃ v0_ : Value, e = .returned (v0_) ∧ Kd.R (Kd.int .i64) 3 w' w.heap.size (fun _ => True) v0_ r ∧ Below w.heap.size w w' := by
 have hu28 := Try.underlying28
 have HR0 := aM hr0
 have HC0 := aM hc0
 clear hr0 hc0
 have HR1_0 := aM hr1_0
 have HC1_0 := aM hc1_0
 clear hr1_0 hc1_0
 have HR2 := aM hr2
 have HC2 := aM hc2
 clear hr2 hc2
 have HB := aM (Below.refl w.heap.size w)
 have H : ((impl_isLevels.f k l0).bind fun t221 => (if t221 = true then ((impl_Scan_isPass.f l1_0 a1_1 a1_2 a1_3 a1_4).bind fun t222 => (if t222 = true then (impl_PutFirst.j0 k l0 l2 (a1_3 != 0) l1_0 a1_1 a1_2 a1_3 a1_4) else (impl_PutFirst.j0 k l0 l2 true l1_0 a1_1 a1_2 a1_3 a1_4))) else (impl_PutFirst.j0 k l0 l2 true l1_0 a1_1 a1_2 a1_3 a1_4))) = some r := h
 clear h
 have HC4 := aM H
 clear H
 go_enter Try.func26, Try.ntmps26
 go_upto_region 1 with (first | ((with_reducible refine gate_dst (N := 4) rfl ?_); refine box_event ?hg (N := 4) ?hd (cs := #[.slice A1_0 l1_0.length c1_0, .int .i64 a1_1, .int .i64 a1_2, .int .i64 a1_3, .int .i64 a1_4]) (t := 28) ?hr ?_; (case hd => rfl); (case hg => rfl); (case hr => first | (go_simp; done) | (go_simp; rfl)); intro gb220 hg w5 hbox hb; have BK220 := aM hbox; have GW220 := aM (zG hg : w.heap.size ≤ gb220); have GE220 := aM (zG hg : w.heap.size ≤ gb220); replace HB := cH HB hb; clear hb hbox hg))
 (try simp only [Act.put, List.setIfInBounds_toArray, List.set_cons_zero, List.set_cons_succ])
 go_cut [20] (fun v20 wc => ∃ (kq : Nat) (x20_3 : Bool), v20 = .bool x20_3 ∧ Aside0 (impl_PutFirst.j0 kq l0 l2 x20_3 l1_0 a1_1 a1_2 a1_3 a1_4 = some r) ∧ Aside0 (kq ≤ k) ∧ Aside0 (wc.heap[gb220]? = some (.cells #[(.slice A1_0 l1_0.length c1_0), .int .i64 a1_1, .int .i64 a1_2, .int .i64 a1_3, .int .i64 a1_4] 28 (0, 0))) ∧ Aside0 (Below w.heap.size w wc))
 case first =>
  have H := HC4.out
  clear HC4
  obtain ⟨t221, A6, H⟩ := oH H
  by_cases c7 : t221 = true
  ·subst c7
   replace H := iT H
   obtain ⟨t222, A8, H⟩ := oH H
   by_cases c9 : t222 = true
   ·subst c9
    replace H := iT H
    have H' := aM H
    clear H
    go_wp2_with (first | (go_at_call 73; (with_reducible refine (impl_isLevels.calls k _ _ l0 true _ ?side1 ?side2 A6.out).mono ?_); (case side1 => exact zC (Kd.C_below HR0.out HB.out)); (case side2 => exact HC0.out); rintro e w' ⟨rfl, ⟨nd, rfl⟩⟩; obtain ⟨hcz10_0, hcz10_1, hcz10_2, hcz10_3, hcz10_4⟩ := kk5 BK220; obtain ⟨hfz10_0, hfz10_1, hfz10_2, hfz10_3, hfz10_4⟩ := kg5 BK220) | (go_at_call 74; (with_reducible refine (impl_Scan_isPass.calls _ _ l1_0 a1_1 a1_2 a1_3 a1_4 true _ ?side1 ?side2 A8.out).mono ?_); (case side1 => exact zC (Kd.C_below HR1_0.out zH)); (case side2 => exact HC1_0.out); rintro e w11 ⟨rfl, hb⟩; replace BK220 := cB BK220 hb; replace HB := cH HB hb; (try clear hb); obtain ⟨hcz12_0, hcz12_1, hcz12_2, hcz12_3, hcz12_4⟩ := kk5 BK220; obtain ⟨hfz12_0, hfz12_1, hfz12_2, hfz12_3, hfz12_4⟩ := kg5 BK220))
    go_meet
    case rel => exact ⟨_, ((a1_3 != 0)), zS, H', zO, ⟨zK BK220⟩, ⟨zH⟩⟩
   ·replace c9 := Bool.eq_false_iff.mpr c9
    subst c9
    replace H := iF H
    have H' := aM H
    clear H
    go_wp2_with (first | (go_at_call 73; (with_reducible refine (impl_isLevels.calls k _ _ l0 true _ ?side1 ?side2 A6.out).mono ?_); (case side1 => exact zC (Kd.C_below HR0.out HB.out)); (case side2 => exact HC0.out); rintro e w' ⟨rfl, ⟨nd, rfl⟩⟩; obtain ⟨hcz13_0, hcz13_1, hcz13_2, hcz13_3, hcz13_4⟩ := kk5 BK220; obtain ⟨hfz13_0, hfz13_1, hfz13_2, hfz13_3, hfz13_4⟩ := kg5 BK220) | (go_at_call 74; (with_reducible refine (impl_Scan_isPass.calls _ _ l1_0 a1_1 a1_2 a1_3 a1_4 false _ ?side1 ?side2 A8.out).mono ?_); (case side1 => exact zC (Kd.C_below HR1_0.out zH)); (case side2 => exact HC1_0.out); rintro e w14 ⟨rfl, hb⟩; replace BK220 := cB BK220 hb; replace HB := cH HB hb; (try clear hb)))
    go_meet
    case rel => exact ⟨_, (true), zS, H', zO, ⟨zK BK220⟩, ⟨zH⟩⟩
  ·replace c7 := Bool.eq_false_iff.mpr c7
   subst c7
   replace H := iF H
   have H' := aM H
   clear H
   go_wp2_with (first | (go_at_call 73; (with_reducible refine (impl_isLevels.calls k _ _ l0 false _ ?side1 ?side2 A6.out).mono ?_); (case side1 => exact zC (Kd.C_below HR0.out HB.out)); (case side2 => exact HC0.out); rintro e w' ⟨rfl, ⟨nd, rfl⟩⟩))
   go_meet
   case rel => exact ⟨_, (true), zS, H', zO, ⟨zK BK220⟩, ⟨zH⟩⟩
 case rest =>
  clear HC4
  try clear c2
  obtain ⟨kq, x20_3, rfl, HA, HJ3, BK220, HB⟩ := hcut
  cases kq with
  | zero => exact absurd HA.out (by simp [impl_PutFirst.j0])
  | succ kj3 =>
   have H := HA.out
   clear HA
   simp only [impl_PutFirst.j0] at H
   by_cases c15 : x20_3 = true
   ·subst c15
    replace H := iT H
    obtain rfl := Option.some.inj H
    go_wp2
    go_ret
    exact ⟨_, zR, by first | exact Kd.R_nil _ _ _ _ _ | exact Kd.N_nil _ _ _ _ _ | exact Kd.V_nil _ _ _ _ _ | exact Kd.Q_nil _ _ _ _ _ | exact Kd.S_nil _ _ _ _ _, zH⟩
   ·replace c15 := Bool.eq_false_iff.mpr c15
    subst c15
    replace H := iF H
    obtain ⟨y223, hy223⟩ : ∃ y_ : List Int, y_ = (([] : List Int)) := ⟨_, rfl⟩
    replace H : (if y223.length + l0.length < 17592186044416 then ((impl_putFirst.f kj3 (y223 ++ l0) l1_0 a1_1 a1_2 a1_3 a1_4 l2).bind fun bt229 => (if bt229.1 = true then (some bt229.2) else (some ([] : List Int)))) else (none)) = some r := by first | (rw [hy223]; with_reducible exact H) | (have H2_ := (Option.bind_some _ _).symm.trans H; rw [hy223]; with_reducible exact H2_) | (have H2_ := (Option.bind_some _ _).symm.trans H; with_reducible exact H2_) | with_reducible exact H | (rw [hy223]; exact H) | exact H
    have Ny223 := aM hy223
    clear hy223
    by_cases c16 : y223.length + l0.length < 17592186044416
    ·rw [if_pos c16] at H
     have LMc16 := aM c16
     clear c16
     obtain ⟨y226, hy226⟩ : ∃ y_ : List Int, y_ = (y223 ++ l0) := ⟨_, rfl⟩
     replace H : ((impl_putFirst.f kj3 y226 l1_0 a1_1 a1_2 a1_3 a1_4 l2).bind fun bt229 => (if bt229.1 = true then (some bt229.2) else (some ([] : List Int)))) = some r := by first | (rw [hy226]; with_reducible exact H) | (have H2_ := (Option.bind_some _ _).symm.trans H; rw [hy226]; with_reducible exact H2_) | (have H2_ := (Option.bind_some _ _).symm.trans H; with_reducible exact H2_) | with_reducible exact H | (rw [hy226]; exact H) | exact H
     have Ny226 := aM hy226
     clear hy226
     replace H := oB H
     obtain ⟨⟨t229, t230⟩, A170, H⟩ := H
     replace H : (if t229 = true then (some t230) else (some ([] : List Int))) = some r := H
     have A17 := aM A170
     clear A170
     by_cases c18 : t229 = true
     ·subst c18
      replace H := iT H
      obtain rfl := Option.some.inj H
      go_wp2_with (first | ((with_reducible refine gate_dst (N := 21) rfl ?_); refine Kd.R_lit (Kd.int .i64) _ 3 ?hg (N := 21) ?hd (xs := ([] : List Int)) (inner := []) (ok := fun _ => True) (okp := fun _ => True) ?hr ?hp (fun _ hk => hk) trivial (Below.refl _ _) (Nat.le_refl _) (by simp) ?_; (case hd => rfl); (case hg => rfl); (case hr => first | (go_simp; done) | (go_simp; rfl)); (case hp => exact (Reps.none _ _)); intro v224 w19 ho20 hb hg_ hnew_; clear hg_ hnew_; (first | rw [← Ny223.out] at ho20 | (simp only [Int.reduceToNat] at ho20; rw [← Ny223.out] at ho20)); have HO225 := aM (Kd.R_lower ho20 (below_size zH)); replace BK220 := cB BK220 hb; replace HB := cH HB hb; clear hb ho20) | ((with_reducible refine gate_builtin (b := .append) (xs := #[.tmp 21, .tmp 22]) rfl ?_); at_builtin; refine Kd.R_append_rows (Kd.int .i64) (w0 := w) w.heap.size rfl (.tmp 21) (.tmp 22) 22 3 (.int .i64 0) 8 rfl Try.underlying22 info3 rfl (by decide) (by omega) v224 y223 l0 _ _ _ (fun _ => True) (fun _ => False) rfl rfl ?aO ?aR (fun _ _ h => h) (fun _ h => h.elim) ?aF ?aB ?aS ?aL ?_; (case aR => exact zC (Kd.C_below HR0.out HB.out)); (case aB => exact zH); (case aF => exact (fun _ _ => trivial)); (case aO => exact (by (with_reducible repeat (first | apply Kd.R_alloc | apply Kd.R_drewN | apply Kd.R_drew)); exact HO225.out)); (case aS => exact (below_size zH)); (case aL => have := LMc16.out; omega); intro v227 w21 ho hb hg hat; rw [← Ny226.out] at ho; replace BK220 := aM (blk_grown (g := gb220) (o := .cells #[.slice A1_0 l1_0.length c1_0, .int .i64 a1_1, .int .i64 a1_2, .int .i64 a1_3, .int .i64 a1_4] 28 (0, 0)) (zK BK220) hg (Kd.R_ne HO225.out BK220.out (by decide))); replace HB := aM (hb); have HO228 := aM (ho); clear HO225; clear ho hb hg hat; obtain ⟨hcz22_0, hcz22_1, hcz22_2, hcz22_3, hcz22_4⟩ := kk5 BK220; obtain ⟨hfz22_0, hfz22_1, hfz22_2, hfz22_3, hfz22_4⟩ := kg5 BK220; obtain ⟨Ao23, co23, eo23⟩ := Kd.R_slice HO228.out; subst eo23) | (go_at_call 78; (with_reducible refine (impl_putFirst.calls kj3 (fun k_ => some k_ = (.slice Ao23 y226.length co23 : Value).ownBlock) (.slice Ao23 y226.length co23) y226 _ _ l1_0 a1_1 a1_2 a1_3 a1_4 _ _ l2 true t230 w _ ?side1 ?side2 ?side3 ?side4 ?side5 ?side6 A17.out).mono ?_); (case side1 => repeat (first | (with_reducible first | exact HB.out | apply bA | apply bN | apply b1 | refine bS ?_ GE220.out) | exact HB.out)); (case side2 => exact Kd.R_tight rfl HO228.out); (case side3 => exact Kd.C_kept_came (Kd.heap_int .i64) HR1_0.out zH (fun k_ hs_ => (fun e_ => Kd.R_base HO228.out k_ e_.symm) hs_)); (case side4 => exact HC1_0.out); (case side5 => exact Kd.C_kept_came (Kd.heap_int .i64) HR2.out zH (fun k_ hs_ => (fun e_ => Kd.R_base HO228.out k_ e_.symm) hs_)); (case side6 => exact HC2.out); rintro e w24 ⟨rfl, hy0, hb, hkp⟩; replace BK220 := aM (blk_kept (zK BK220) hkp (fun hs_ => (fun e_ => (Kd.R_ne HO228.out BK220.out (by decide)) e_) hs_)); replace HO228 := aM (Kd.R_reok rfl hy0 (fun k_ e_ => HO228.out.1 k_ e_)); replace HB := aM (hb); (try clear hb); (try clear hkp); (try clear hy0)))
      go_ret
      exact ⟨_, zR, by (with_reducible repeat (first | apply Kd.R_alloc | apply Kd.R_drewN | apply Kd.R_drew)); exact HO228.out, zH⟩
     ·replace c18 := Bool.eq_false_iff.mpr c18
      subst c18
      replace H := iF H
      obtain rfl := Option.some.inj H
      go_wp2_with (first | ((with_reducible refine gate_dst (N := 21) rfl ?_); refine Kd.R_lit (Kd.int .i64) _ 3 ?hg (N := 21) ?hd (xs := ([] : List Int)) (inner := []) (ok := fun _ => True) (okp := fun _ => True) ?hr ?hp (fun _ hk => hk) trivial (Below.refl _ _) (Nat.le_refl _) (by simp) ?_; (case hd => rfl); (case hg => rfl); (case hr => first | (go_simp; done) | (go_simp; rfl)); (case hp => exact (Reps.none _ _)); intro v224 w25 ho26 hb hg_ hnew_; clear hg_ hnew_; (first | rw [← Ny223.out] at ho26 | (simp only [Int.reduceToNat] at ho26; rw [← Ny223.out] at ho26)); have HO225 := aM (Kd.R_lower ho26 (below_size zH)); replace BK220 := cB BK220 hb; replace HB := cH HB hb; clear hb ho26) | ((with_reducible refine gate_builtin (b := .append) (xs := #[.tmp 21, .tmp 22]) rfl ?_); at_builtin; refine Kd.R_append_rows (Kd.int .i64) (w0 := w) w.heap.size rfl (.tmp 21) (.tmp 22) 22 3 (.int .i64 0) 8 rfl Try.underlying22 info3 rfl (by decide) (by omega) v224 y223 l0 _ _ _ (fun _ => True) (fun _ => False) rfl rfl ?aO ?aR (fun _ _ h => h) (fun _ h => h.elim) ?aF ?aB ?aS ?aL ?_; (case aR => exact zC (Kd.C_below HR0.out HB.out)); (case aB => exact zH); (case aF => exact (fun _ _ => trivial)); (case aO => exact (by (with_reducible repeat (first | apply Kd.R_alloc | apply Kd.R_drewN | apply Kd.R_drew)); exact HO225.out)); (case aS => exact (below_size zH)); (case aL => have := LMc16.out; omega); intro v227 w27 ho hb hg hat; rw [← Ny226.out] at ho; replace BK220 := aM (blk_grown (g := gb220) (o := .cells #[.slice A1_0 l1_0.length c1_0, .int .i64 a1_1, .int .i64 a1_2, .int .i64 a1_3, .int .i64 a1_4] 28 (0, 0)) (zK BK220) hg (Kd.R_ne HO225.out BK220.out (by decide))); replace HB := aM (hb); have HO228 := aM (ho); clear HO225; clear ho hb hg hat; obtain ⟨hcz28_0, hcz28_1, hcz28_2, hcz28_3, hcz28_4⟩ := kk5 BK220; obtain ⟨hfz28_0, hfz28_1, hfz28_2, hfz28_3, hfz28_4⟩ := kg5 BK220; obtain ⟨Ao29, co29, eo29⟩ := Kd.R_slice HO228.out; subst eo29) | (go_at_call 78; (with_reducible refine (impl_putFirst.calls kj3 (fun k_ => some k_ = (.slice Ao29 y226.length co29 : Value).ownBlock) (.slice Ao29 y226.length co29) y226 _ _ l1_0 a1_1 a1_2 a1_3 a1_4 _ _ l2 false t230 w _ ?side1 ?side2 ?side3 ?side4 ?side5 ?side6 A17.out).mono ?_); (case side1 => repeat (first | (with_reducible first | exact HB.out | apply bA | apply bN | apply b1 | refine bS ?_ GE220.out) | exact HB.out)); (case side2 => exact Kd.R_tight rfl HO228.out); (case side3 => exact Kd.C_kept_came (Kd.heap_int .i64) HR1_0.out zH (fun k_ hs_ => (fun e_ => Kd.R_base HO228.out k_ e_.symm) hs_)); (case side4 => exact HC1_0.out); (case side5 => exact Kd.C_kept_came (Kd.heap_int .i64) HR2.out zH (fun k_ hs_ => (fun e_ => Kd.R_base HO228.out k_ e_.symm) hs_)); (case side6 => exact HC2.out); rintro e w30 ⟨rfl, hy0, hb, hkp⟩; replace BK220 := aM (blk_kept (zK BK220) hkp (fun hs_ => (fun e_ => (Kd.R_ne HO228.out BK220.out (by decide)) e_) hs_)); replace HO228 := aM (Kd.R_reok rfl hy0 (fun k_ e_ => HO228.out.1 k_ e_)); replace HB := aM (hb); (try clear hb); (try clear hkp); (try clear hy0)))
      go_ret
      exact ⟨_, zR, by first | exact Kd.R_nil _ _ _ _ _ | exact Kd.N_nil _ _ _ _ _ | exact Kd.V_nil _ _ _ _ _ | exact Kd.Q_nil _ _ _ _ _ | exact Kd.S_nil _ _ _ _ _, zH⟩
    ·rw [if_neg c16] at H
     exact absurd H (by simp)

theorem iPutFirst_f (b c : List Int) (f t h l : Int) (list : List Int) (hlen : list.length ≤ 1048576) : Ev (fun k => impl_PutFirst.f k b c f t h l list) (putI b f t h l list) := by
  have no : ¬ (numsB b (-16383) 16383 = true ∧ passB f t h l = true ∧ h = 0) → Ev (fun k => impl_PutFirst.j0 k b list true c f t h l) (putI b f t h l list) := fun hn => by
    unfold putI
    rw [if_neg (fun h => hn ⟨h.1, h.2.1, h.2.2.1⟩)]
    exact Ev.step (fun k => by rw [impl_PutFirst.j0]) (evPos rfl (Ev.now _))
  unfold impl_PutFirst.f
  refine evBind (isLevels_f b) (evIf (fun hl => ?_) (fun hl => no (fun h => hl h.1)))
  refine evBind (evConst (isPass_f c f t h l)) (evIf (fun hp => ?_) (fun hp => no (fun h => hp h.2.1)))
  by_cases hh : h = 0
  · rw [show (h != 0) = false from by simp [hh]]
    refine Ev.step (fun k => by rw [impl_PutFirst.j0]) (evNeg (by simp) ?_)
    have hbl := nums_len hl
    simp only [Option.bind_some, List.nil_append]
    have key := iPut_f b list c f t h l hbl hp hlen
    unfold putI
    by_cases ha : (list.length : Int) = t - f + 1 ∧ list.all (fun n => putB n l) = true
    · have hcond : numsB b (-16383) 16383 = true ∧ passB f t h l = true ∧ h = 0 ∧ (list.length : Int) = t - f + 1 ∧ list.all (fun n => putB n l) = true := ⟨hl, hp, hh, ha.1, ha.2⟩
      rw [if_pos ha] at key
      rw [if_pos hcond]
      exact evPos (by simp; omega) (evBind key (evPos rfl (Ev.now _)))
    · have hcond : ¬ (numsB b (-16383) 16383 = true ∧ passB f t h l = true ∧ h = 0 ∧ (list.length : Int) = t - f + 1 ∧ list.all (fun n => putB n l) = true) := fun h => ha h.2.2.2
      rw [if_neg ha] at key
      rw [if_neg hcond]
      exact evPos (by simp; omega) (evBind key (evNeg (by simp) (Ev.now _)))
  · rw [show (h != 0) = true from by simp [hh]]
    exact no (fun h => hh h.2.2)

end Go.Proofs.Ythajjjpblkhmmaa.CP
