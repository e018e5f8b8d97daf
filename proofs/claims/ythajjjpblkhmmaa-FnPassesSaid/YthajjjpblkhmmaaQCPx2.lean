/- Functions that a law of this seat reaches: written by a program of this session (wip/xprint.py), and by hand. -/
import Derived.Test.YthajjjpblkhmmaaQMac
import Derived.Test.YthajjjpblkhmmaaQCPx0
import Derived.Test.YthajjjpblkhmmaaQCPx1
namespace Go.Proofs.Ythajjjpblkhmmaa.CP
open Go.RowKit Go.Proofs.Ythajjjpblkhmmaa.B Go.Proofs.YthajjjpblkhmmaaW.PrintWords Go.Proofs.YthajjjpblkhmmaaW.PrintLast Go.Proofs.YthajjjpblkhmmaaW.PrintMore
attribute [local go_sem] max2_int min2_int max_two min_two max_three min_three max_four min_four   -- for this text's walks alone
set_option linter.unusedVariables false
set_option linter.unusedSimpArgs false

/-- A number by 2^low, cut. -/
def cutI (n low : Int) : Int := if n < 0 then -((-n) / 2 ^ low.toNat) else n / 2 ^ low.toNat
theorem cut_range {n low : Int} : (if n < 0 then n else 0) ≤ cutI n low ∧ cutI n low ≤ (if n < 0 then 0 else n) := by
  have hp := pow_pos' low.toNat
  unfold cutI
  by_cases h : n < 0
  · simp only [if_pos h]
    have h1 : 0 ≤ (-n) / 2 ^ low.toNat := Int.ediv_nonneg (by omega) (by omega)
    have h2 : (-n) / 2 ^ low.toNat ≤ -n := Int.ediv_le_self _ (by omega)
    omega
  · simp only [if_neg h]
    have h1 : 0 ≤ n / 2 ^ low.toNat := Int.ediv_nonneg (by omega) (by omega)
    have h2 : n / 2 ^ low.toNat ≤ n := Int.ediv_le_self _ (by omega)
    omega
theorem cut_small {n low : Int} (h : -32767 ≤ n ∧ n ≤ 32767) : -32767 ≤ cutI n low ∧ cutI n low ≤ 32767 := by
  have := cut_range (n := n) (low := low)
  by_cases h0 : n < 0
  · simp only [if_pos h0] at this; omega
  · simp only [if_neg h0] at this; omega
theorem l13_f (n low : Int) (h : -32767 ≤ n ∧ n ≤ 32767) (h0 : 0 ≤ low) (h1 : low ≤ 16) : spec_l13Cut.f n low = some (cutI n low) := by
  have hc := cut_small (n := n) (low := low) h
  unfold spec_l13Cut.f
  unfold cutI at hc ⊢
  by_cases hn : n < 0
  · rw [if_pos hn] at hc ⊢
    rw [if_pos h0, if_pos hn, w64 (x := -n) (by omega) (by omega), shr_of h0 (by omega), w64 (by omega) (by omega)]
  · rw [if_neg hn] at hc ⊢
    rw [if_pos h0, if_neg hn, shr_of h0 (by omega)]
theorem tdiv_cut (n low : Int) (h : -32767 ≤ n ∧ n ≤ 32767) (h0 : 0 ≤ low) (h1 : low ≤ 16) : wrap64 (Int.tdiv n (shl .i64 1 low)) = cutI n low := by
  rw [shl1 low h0 h1]
  have e : Int.tdiv n (2 ^ low.toNat) = cutI n low := by
    unfold cutI
    by_cases hn : n < 0
    · rw [if_pos hn, ← Int.tdiv_eq_ediv_of_nonneg (by omega), Int.neg_tdiv, Int.neg_neg]
    · rw [if_neg hn, Int.tdiv_eq_ediv_of_nonneg (by omega)]
  rw [e]
  have := cut_small (n := n) (low := low) h
  exact w64 (by omega) (by omega)

/-! ### spec_FirstOf: function 16 -/
mutual
def spec_FirstOf.j0 : Nat → List Int → List Int → Bool → List Int → Int → Int → Int → Int → Option (List Int)
  | 0, _, _, _, _, _, _, _, _ => none
  | k + 1, x0, x5, x21, x130000, x130001, x130002, x130003, x130004 => if x21 = true then (some x5) else ((spec_ToZig.f k x0).bind fun t135 => (spec_FirstOf.l0 k x5 t135 x130001 x130000 x130001 x130002 x130003 x130004))
def spec_FirstOf.l0 : Nat → List Int → List Int → Int → List Int → Int → Int → Int → Int → Option (List Int)
  | 0, _, _, _, _, _, _, _, _ => none
  | k + 1, x5, x6, x7, x130000, x130001, x130002, x130003, x130004 => if x7 ≤ x130002 then (if 0 ≤ x7 then (if x7 < (x6.length : Int) then ((spec_l13Cut.f (rd x6 x7) x130004).bind fun t139 => (if x5.length < 17592186044416 then (spec_FirstOf.l0 k (x5 ++ [t139]) x6 (wrap64 (x7 + 1)) x130000 x130001 x130002 x130003 x130004) else (none))) else (none)) else (none)) else (some x5)
end
def spec_FirstOf.f (k : Nat) (l0 : List Int) (l1_0 : List Int) (a1_1 : Int) (a1_2 : Int) (a1_3 : Int) (a1_4 : Int) : Option (List Int) := (some (([] : List Int) : List Int)).bind fun y130 => ((spec_l11Level.f k l0).bind fun t133 => (if t133 = true then ((spec_l12Bits.f l1_0 a1_1 a1_2 a1_3 a1_4).bind fun t134 => (if t134 = true then (spec_FirstOf.j0 k l0 y130 (a1_3 != 0) l1_0 a1_1 a1_2 a1_3 a1_4) else (spec_FirstOf.j0 k l0 y130 true l1_0 a1_1 a1_2 a1_3 a1_4))) else (spec_FirstOf.j0 k l0 y130 true l1_0 a1_1 a1_2 a1_3 a1_4)))
def spec_FirstOf.T8 : Bool × List (List Nat × List Nat) := (true, [([], []), ([], []), ([], []), ([1, 2], [1, 2]), ([3], [3]), ([], []), ([5], [5]), ([4, 6], [4, 6]), ([7], [7]), ([0, 8, 7], [0, 8]), ([9, 9, 0, 1, 2, 3, 4, 5, 6, 7, 8, 9], [0, 9])])
def spec_FirstOf.B8 : List Nat := [0, 0, 0, 6, 14, 0, 32, 126, 254, 511, 1023]
theorem spec_FirstOf.tab8 : rtab .any (opsOf Try.f16 8) = spec_FirstOf.T8 := by kernel_rfl
theorem spec_FirstOf.bits8 : waitsOk spec_FirstOf.T8.2 spec_FirstOf.B8 = true := by kernel_rfl
set_option maxHeartbeats 8000000 in
set_option maxRecDepth 100000 in
theorem spec_FirstOf.calls (k : Nat) (A0 : Option Addr) (c0 : Nat) (l0 : List Int) (A1_0 : Option Addr) (c1_0 : Nat) (l1_0 : List Int) (a1_1 : Int) (a1_2 : Int) (a1_3 : Int) (a1_4 : Int) (r : List Int) (w : World) (hr0 : Kd.C (Kd.int .i64) w A0 l0.length l0) (hc0 : l0.length ≤ c0) (hr1_0 : Kd.C (Kd.int .i64) w A1_0 l1_0.length l1_0) (hc1_0 : l1_0.length ≤ c1_0) (h : spec_FirstOf.f k l0 l1_0 a1_1 a1_2 a1_3 a1_4 = some r) :
  Calls Try.prog 16 #[.slice A0 l0.length c0, .agg #[.slice A1_0 l1_0.length c1_0, .int .i64 a1_1, .int .i64 a1_2, .int .i64 a1_3, .int .i64 a1_4]] w fun e w' => ∃ v0_ : Value, e = .returned (v0_) ∧ Kd.R (Kd.int .i64) 3 w' w.heap.size (fun _ => True) v0_ r ∧ Below w.heap.size w w' := by
 have hu28 := Try.underlying28
 have HR0 := aM hr0
 have HC0 := aM hc0
 clear hr0 hc0
 have HR1_0 := aM hr1_0
 have HC1_0 := aM hc1_0
 clear hr1_0 hc1_0
 have HB := aM (Below.refl w.heap.size w)
 have H : ((some (([] : List Int) : List Int)).bind fun y130 => ((spec_l11Level.f k l0).bind fun t133 => (if t133 = true then ((spec_l12Bits.f l1_0 a1_1 a1_2 a1_3 a1_4).bind fun t134 => (if t134 = true then (spec_FirstOf.j0 k l0 y130 (a1_3 != 0) l1_0 a1_1 a1_2 a1_3 a1_4) else (spec_FirstOf.j0 k l0 y130 true l1_0 a1_1 a1_2 a1_3 a1_4))) else (spec_FirstOf.j0 k l0 y130 true l1_0 a1_1 a1_2 a1_3 a1_4)))) = some r := h
 clear h
 obtain ⟨y130, hy130⟩ : ∃ y_ : List Int, y_ = (([] : List Int)) := ⟨_, rfl⟩
 replace H : ((spec_l11Level.f k l0).bind fun t133 => (if t133 = true then ((spec_l12Bits.f l1_0 a1_1 a1_2 a1_3 a1_4).bind fun t134 => (if t134 = true then (spec_FirstOf.j0 k l0 y130 (a1_3 != 0) l1_0 a1_1 a1_2 a1_3 a1_4) else (spec_FirstOf.j0 k l0 y130 true l1_0 a1_1 a1_2 a1_3 a1_4))) else (spec_FirstOf.j0 k l0 y130 true l1_0 a1_1 a1_2 a1_3 a1_4))) = some r := by first | (rw [hy130]; with_reducible exact H) | (have H2_ := (Option.bind_some _ _).symm.trans H; rw [hy130]; with_reducible exact H2_) | (have H2_ := (Option.bind_some _ _).symm.trans H; with_reducible exact H2_) | with_reducible exact H | (rw [hy130]; exact H) | exact H
 have Ny130 := aM hy130
 clear hy130
 have HC3 := aM H
 clear H
 go_enter Try.func16, Try.ntmps16
 go_upto_region 2 with (first | ((with_reducible refine gate_dst (N := 3) rfl ?_); refine box_event ?hg (N := 3) ?hd (cs := #[.slice A1_0 l1_0.length c1_0, .int .i64 a1_1, .int .i64 a1_2, .int .i64 a1_3, .int .i64 a1_4]) (t := 28) ?hr ?_; (case hd => rfl); (case hg => rfl); (case hr => first | (go_simp; done) | (go_simp; rfl)); intro gb129 hg w4 hbox hb; have BK129 := aM hbox; have GW129 := aM (zG hg : w.heap.size ≤ gb129); have GE129 := aM (zG hg : w.heap.size ≤ gb129); replace HB := cH HB hb; clear hb hbox hg) | ((with_reducible refine gate_dst (N := 8) rfl ?_); refine Kd.R_lit (Kd.int .i64) _ 3 ?hg (N := 8) ?hd (xs := ([] : List Int)) (inner := []) (ok := fun _ => True) (okp := fun _ => True) ?hr ?hp (fun _ hk => hk) trivial (Below.refl _ _) (Nat.le_refl _) (by simp) ?_; (case hd => rfl); (case hg => rfl); (case hr => first | (go_simp; done) | (go_simp; rfl)); (case hp => exact (Reps.none _ _)); intro v131 w5 ho6 hb hg_ hnew_; clear hg_ hnew_; (first | rw [← Ny130.out] at ho6 | (simp only [Int.reduceToNat] at ho6; rw [← Ny130.out] at ho6)); have HO132 := aM (Kd.R_lower ho6 (below_size zH)); replace BK129 := cB BK129 hb; replace HB := cH HB hb; clear hb ho6))
 (try simp only [Act.put, List.setIfInBounds_toArray, List.set_cons_zero, List.set_cons_succ])
 go_cut [21] (fun v21 wc => ∃ (kq : Nat) (x21_2 : Bool), v21 = .bool x21_2 ∧ Aside0 (spec_FirstOf.j0 kq l0 y130 x21_2 l1_0 a1_1 a1_2 a1_3 a1_4 = some r) ∧ Aside0 (kq ≤ k) ∧ Aside0 (Kd.R (Kd.int .i64) 3 wc w.heap.size (fun _ => True) v131 y130) ∧ Aside0 (wc.heap[gb129]? = some (.cells #[(.slice A1_0 l1_0.length c1_0), .int .i64 a1_1, .int .i64 a1_2, .int .i64 a1_3, .int .i64 a1_4] 28 (0, 0))) ∧ Aside0 (Below w.heap.size w wc))
 case first =>
  have H := HC3.out
  clear HC3
  obtain ⟨t133, A7, H⟩ := oH H
  by_cases c8 : t133 = true
  ·subst c8
   replace H := iT H
   obtain ⟨t134, A9, H⟩ := oH H
   by_cases c10 : t134 = true
   ·subst c10
    replace H := iT H
    have H' := aM H
    clear H
    go_wp2_with (first | (go_at_call 70; (with_reducible refine (spec_l11Level.calls k _ _ l0 true _ ?side1 ?side2 A7.out).mono ?_); (case side1 => exact zC (Kd.C_below HR0.out HB.out)); (case side2 => exact HC0.out); rintro e w' ⟨rfl, ⟨nd, rfl⟩⟩; obtain ⟨hcz11_0, hcz11_1, hcz11_2, hcz11_3, hcz11_4⟩ := kk5 BK129; obtain ⟨hfz11_0, hfz11_1, hfz11_2, hfz11_3, hfz11_4⟩ := kg5 BK129) | (go_at_call 71; (with_reducible refine (spec_l12Bits.calls _ _ l1_0 a1_1 a1_2 a1_3 a1_4 true _ ?side1 ?side2 A9.out).mono ?_); (case side1 => exact zC (Kd.C_below HR1_0.out zH)); (case side2 => exact HC1_0.out); rintro e w12 ⟨rfl, hb⟩; replace HO132 := aM (Kd.R_below (by (with_reducible repeat (first | apply Kd.R_alloc | apply Kd.R_drewN | apply Kd.R_drew)); exact HO132.out) hb); replace BK129 := cB BK129 hb; replace HB := cH HB hb; (try clear hb); obtain ⟨hcz13_0, hcz13_1, hcz13_2, hcz13_3, hcz13_4⟩ := kk5 BK129; obtain ⟨hfz13_0, hfz13_1, hfz13_2, hfz13_3, hfz13_4⟩ := kg5 BK129))
    go_meet
    case rel => exact ⟨_, ((a1_3 != 0)), zS, H', zO, ⟨by (with_reducible repeat (first | apply Kd.R_alloc | apply Kd.R_drewN | apply Kd.R_drew)); exact HO132.out⟩, ⟨zK BK129⟩, ⟨zH⟩⟩
   ·replace c10 := Bool.eq_false_iff.mpr c10
    subst c10
    replace H := iF H
    have H' := aM H
    clear H
    go_wp2_with (first | (go_at_call 70; (with_reducible refine (spec_l11Level.calls k _ _ l0 true _ ?side1 ?side2 A7.out).mono ?_); (case side1 => exact zC (Kd.C_below HR0.out HB.out)); (case side2 => exact HC0.out); rintro e w' ⟨rfl, ⟨nd, rfl⟩⟩; obtain ⟨hcz14_0, hcz14_1, hcz14_2, hcz14_3, hcz14_4⟩ := kk5 BK129; obtain ⟨hfz14_0, hfz14_1, hfz14_2, hfz14_3, hfz14_4⟩ := kg5 BK129) | (go_at_call 71; (with_reducible refine (spec_l12Bits.calls _ _ l1_0 a1_1 a1_2 a1_3 a1_4 false _ ?side1 ?side2 A9.out).mono ?_); (case side1 => exact zC (Kd.C_below HR1_0.out zH)); (case side2 => exact HC1_0.out); rintro e w15 ⟨rfl, hb⟩; replace HO132 := aM (Kd.R_below (by (with_reducible repeat (first | apply Kd.R_alloc | apply Kd.R_drewN | apply Kd.R_drew)); exact HO132.out) hb); replace BK129 := cB BK129 hb; replace HB := cH HB hb; (try clear hb)))
    go_meet
    case rel => exact ⟨_, (true), zS, H', zO, ⟨by (with_reducible repeat (first | apply Kd.R_alloc | apply Kd.R_drewN | apply Kd.R_drew)); exact HO132.out⟩, ⟨zK BK129⟩, ⟨zH⟩⟩
  ·replace c8 := Bool.eq_false_iff.mpr c8
   subst c8
   replace H := iF H
   have H' := aM H
   clear H
   go_wp2_with (first | (go_at_call 70; (with_reducible refine (spec_l11Level.calls k _ _ l0 false _ ?side1 ?side2 A7.out).mono ?_); (case side1 => exact zC (Kd.C_below HR0.out HB.out)); (case side2 => exact HC0.out); rintro e w' ⟨rfl, ⟨nd, rfl⟩⟩))
   go_meet
   case rel => exact ⟨_, (true), zS, H', zO, ⟨by (with_reducible repeat (first | apply Kd.R_alloc | apply Kd.R_drewN | apply Kd.R_drew)); exact HO132.out⟩, ⟨zK BK129⟩, ⟨zH⟩⟩
 case rest =>
  clear HC3
  obtain ⟨kq, x21_2, rfl, HA, HJ2, HO_5, BK129, HB⟩ := hcut
  cases kq with
  | zero => exact absurd HA.out (by simp [spec_FirstOf.j0])
  | succ kj2 =>
   have H := HA.out
   clear HA
   simp only [spec_FirstOf.j0] at H
   by_cases c16 : x21_2 = true
   ·subst c16
    replace H := iT H
    obtain rfl := Option.some.inj H
    go_wp2
    go_ret
    exact ⟨_, zR, by (with_reducible repeat (first | apply Kd.R_alloc | apply Kd.R_drewN | apply Kd.R_drew)); exact HO_5.out, zH⟩
   ·replace c16 := Bool.eq_false_iff.mpr c16
    subst c16
    replace H := iF H
    obtain ⟨t135, A17, H⟩ := oH H
    have H' := aM H
    clear H
    go_wp2_with (first | (go_at_call 37; (with_reducible refine (spec_ToZig.calls kj2 _ _ l0 t135 _ ?side1 ?side2 A17.out).mono ?_); (case side1 => exact zC (Kd.C_below HR0.out HB.out)); (case side2 => exact HC0.out); rintro e w18 ⟨v136, rfl, ho0, hb⟩; have HO137 := aM (Kd.R_lower (Kd.R_new' ho0 (Kd.R_lt (by (with_reducible repeat (first | apply Kd.R_alloc | apply Kd.R_drewN | apply Kd.R_drew)); exact HO_5.out))) (below_size zH)); replace HO_5 := aM (Kd.R_elder' (by (with_reducible repeat (first | apply Kd.R_alloc | apply Kd.R_drewN | apply Kd.R_drew)); exact HO_5.out) (Kd.R_base ho0) hb); replace BK129 := cB BK129 hb; replace HB := cH HB hb; (try clear hb); (try clear ho0); obtain ⟨hcz19_0, hcz19_1, hcz19_2, hcz19_3, hcz19_4⟩ := kk5 BK129; obtain ⟨hfz19_0, hfz19_1, hfz19_2, hfz19_3, hfz19_4⟩ := kg5 BK129))
    go_loopg [5, 7] kj2 (fun kq v5 v7 w' => ∃ (x5_2 : List Int) (x7_2 : Int), v7 = .int .i64 x7_2 ∧ Aside0 (spec_FirstOf.l0 kq x5_2 t135 x7_2 l1_0 a1_1 a1_2 a1_3 a1_4 = some r) ∧ Aside0 (kq ≤ kj2) ∧ Aside0 (Kd.R (Kd.int .i64) 3 w' w.heap.size (fun k_ => some k_ ≠ (v136 : Value).ownBlock) v5 x5_2) ∧ Aside0 (Kd.R (Kd.int .i64) 3 w' w.heap.size (fun k_ => some k_ ≠ (v5 : Value).ownBlock) v136 t135) ∧ Aside0 (w'.heap[gb129]? = some (.cells #[(.slice A1_0 l1_0.length c1_0), .int .i64 a1_1, .int .i64 a1_2, .int .i64 a1_3, .int .i64 a1_4] 28 (0, 0))) ∧ Aside0 (Below w.heap.size w w'))
    case atStart => exact ⟨(y130), (a1_1), zS, H', ⟨Nat.le_refl _⟩, ⟨by (with_reducible repeat (first | apply Kd.R_alloc | apply Kd.R_drewN | apply Kd.R_drew)); exact Kd.R_mono HO_5.out (fun _ hk => hk.2)⟩, ⟨by (with_reducible repeat (first | apply Kd.R_alloc | apply Kd.R_drewN | apply Kd.R_drew)); exact Kd.R_mono HO137.out (fun _ hk => hk.2)⟩, ⟨zK BK129⟩, ⟨zH⟩⟩
    case round =>
     clear H'
     (try clear c16); (try clear hcz19_0); (try clear hcz19_1); (try clear hcz19_2); (try clear hcz19_3); (try clear hcz19_4); (try clear hfz19_0); (try clear hfz19_1); (try clear hfz19_2); (try clear hfz19_3); (try clear hfz19_4)
     obtain ⟨x5_2, x7_2, rfl, HA, HK2, HO_5, HO_6, BK129, HB⟩ := hrel
     cases gk with
     | zero => exact absurd HA.out (by simp [spec_FirstOf.l0])
     | succ k2 =>
      have H := HA.out
      clear HA
      simp only [spec_FirstOf.l0] at H
      by_cases c20 : x7_2 ≤ a1_2
      ·rw [if_pos c20] at H
       have c20b0 : decide (x7_2 ≤ a1_2) = true := decide_eq_true c20
       clear c20
       by_cases c21 : 0 ≤ x7_2
       ·rw [if_pos c21] at H
        have c21b0 : decide (0 ≤ x7_2) = true := decide_eq_true c21
        clear c21
        by_cases c22 : x7_2 < (t135.length : Int)
        ·rw [if_pos c22] at H
         have c22b0 : decide (x7_2 < (t135.length : Int)) = true := decide_eq_true c22
         clear c22
         obtain ⟨t139, A23, H⟩ := oH H
         by_cases c24 : x5_2.length < 17592186044416
         ·rw [if_pos c24] at H
          have LMc24 := aM c24
          clear c24
          obtain ⟨y140, hy140⟩ : ∃ y_ : List Int, y_ = (x5_2 ++ [t139]) := ⟨_, rfl⟩
          replace H : (spec_FirstOf.l0 k2 y140 t135 (wrap64 (x7_2 + 1)) l1_0 a1_1 a1_2 a1_3 a1_4) = some r := by first | (rw [hy140]; with_reducible exact H) | (have H2_ := (Option.bind_some _ _).symm.trans H; rw [hy140]; with_reducible exact H2_) | (have H2_ := (Option.bind_some _ _).symm.trans H; with_reducible exact H2_) | with_reducible exact H | (rw [hy140]; exact H) | exact H
          have Ny140 := aM hy140
          clear hy140
          have H' := aM H
          clear H
          obtain ⟨hcz25_0, hcz25_1, hcz25_2, hcz25_3, hcz25_4⟩ := kk5 BK129
          obtain ⟨hfz25_0, hfz25_1, hfz25_2, hfz25_3, hfz25_4⟩ := kg5 BK129
          try go_wp2
          have n0_ := aM (Kd.R_drew HO_5.out)
          have n1_ := aM (Kd.R_drew HO_6.out)
          have n2_ := aM (kD BK129.out)
          have n3_ := aM (b1 HB.out)
          clear HO_5
          clear HO_6
          clear BK129
          clear HB
          have HO_5 := n0_
          have HO_6 := n1_
          have BK129 := n2_
          have HB := n3_
          clear n0_ n1_ n2_ n3_
          obtain ⟨Ao27, co27, eo27⟩ := Kd.R_slice HO_6.out
          (first | subst eo27 | (injection eo27 with f1_ f2_ f3_; have f4_ := f1_.symm; have f5_ := f3_.symm; clear f1_ f2_ f3_; subst f4_; subst f5_))
          have p138 : 0 ≤ (x7_2 : Int) := zA
          have q138 : x7_2 < (t135.length : Int) := zA
          obtain ⟨ad138, e138, hx138_0⟩ := Kd.at_int (Kd.R_reads' HO_6.out).2.2 x7_2 p138 q138
          cases e138
          replace p138 := eq_true p138
          replace q138 := eq_true q138
          refine start_ (n := 11) (S := fun w' => w'.cell? ⟨gb129, 0, none⟩ = some (.slice A1_0 l1_0.length c1_0) ∧ w'.cell? ⟨gb129, 1, none⟩ = some (.int .i64 a1_1) ∧ w'.cell? ⟨gb129, 2, none⟩ = some (.int .i64 a1_2) ∧ w'.cell? ⟨gb129, 3, none⟩ = some (.int .i64 a1_3) ∧ w'.cell? ⟨gb129, 4, none⟩ = some (.int .i64 a1_4) ∧ w'.cell? (ad138.add (x7_2).toNat) = some (.int .i64 (rd t135 x7_2))) (ds := [8, 9]) #[false, false, false, false, false, false, false, false, false, false, false] (by kernel_rfl) rfl rfl ⟨(kC BK129.out 0).trans rfl, (kC BK129.out 1).trans rfl, (kC BK129.out 2).trans rfl, (kC BK129.out 3).trans rfl, (kC BK129.out 4).trans rfl, hx138_0⟩ (fun hHeld => ?_); refine with_tabW spec_FirstOf.tab8 spec_FirstOf.bits8 (fun HT_ HW_ => ?_)
          generalize wr.drew = w26 at HO_5 HO_6 BK129 HB hx138_0 hHeld ⊢
          refine zP 0 (some 33) HT_ ?_
          refine zP 1 (some 34) HT_ ?_
          refine zP 2 (some 35) HT_ ?_
          refine zP 3 (some 36) HT_ ?_
          refine zP 5 (some 38) HT_ ?_
          refine zT 4 (some 37) HT_ HW_ hHeld (hy := Or.inl ⟨by rfl, by rintro w' ⟨s0, s1, s2, s3, s4, s5⟩; go_simp; with_reducible rfl⟩) (h := ?_)
          refine zT 6 (some 39) HT_ HW_ hHeld (hy := Or.inl ⟨by rfl, by rintro w' ⟨s0, s1, s2, s3, s4, s5⟩; go_simp; with_reducible rfl⟩) (h := ?_)
          refine zOn 7 (some 40) HT_ (fun K hK => ?_)
          refine zGo Try.func72 #[.int .i64 (rd t135 x7_2), .int .i64 a1_4] ?_
          with_reducible refine (spec_l13Cut.calls (rd t135 x7_2) a1_4 t139 _ A23.out).mono ?_
          rintro e w' ⟨rfl, ⟨nd, rfl⟩⟩
          refine ⟨_, rfl, ?_⟩
          refine hK.out _ _ ⟨(kC BK129.out 0).trans rfl, (kC BK129.out 1).trans rfl, (kC BK129.out 2).trans rfl, (kC BK129.out 3).trans rfl, (kC BK129.out 4).trans rfl, hHeld.2.2.2.2.2⟩ (fun hHeld => ?_)
          clear hK K
          refine zNo (some 40) ?_
          refine last_ (i := 8) (N := some 41) #[true, true, true, true, true, true, true, true, true, false, false] rfl rfl (one_of HT_.out (by kernel_rfl)) (by decide) (fun K hK => ?_)
          refine value_ (w1 := ?_) (v := ?_) (by rfl) rfl ?_ ?_
          rotate_left 2
          ·go_simp
           constructor
           ·rfl
           ·rfl
          refine hK.out _ _ ?_
          clear hK K
          refine zNo (some 41) ?_
          refine last_ (i := 9) (N := some 42) #[true, true, true, true, true, true, true, true, true, true, false] rfl rfl (one_of HT_.out (by kernel_rfl)) (by decide) (fun K hK => ?_)
          refine Kd.R_append_step (Kd.int .i64) (w0 := w) w.heap.size (by rfl) (.tmp 33) (.tmp 41) 22 3 (.int .i64 0) 8 rfl Try.underlying22 info3 rfl (by decide) (by omega) u5 x5_2 t139 [.int .i64 t139] (fun k_ => some k_ ≠ (.slice (some ad138) t135.length co27 : Value).ownBlock) (fun _ => False) rfl rfl ?aP (fun _ hk => hk.elim) ?aF ?aO ?aB ?aS ?aL ?_
          (case aP => exact rfl)
          (case aB => exact zH)
          (case aF => exact (fun k_ hk => Kd.fresh' (Kd.R_lt (by (with_reducible repeat (first | apply Kd.R_alloc | apply Kd.R_drewN | apply Kd.R_drew)); exact HO_6.out)) k_ hk))
          (case aO => exact (by (with_reducible repeat (first | apply Kd.R_alloc | apply Kd.R_drewN | apply Kd.R_drew)); exact HO_5.out))
          (case aS => exact (below_size zH))
          (case aL => have := LMc24.out; omega)
          intro v141 w28 ho hb hg hat
          rw [← Ny140.out] at ho
          have n0_ := aM (Kd.R_after (ok := (fun _ => True)) (by (with_reducible repeat (first | apply Kd.R_alloc | apply Kd.R_drewN | apply Kd.R_drew)); exact Kd.R_mono HO_6.out (fun _ hk => ⟨trivial, hk⟩)) hg hat)
          have n1_ := aM (blk_grown (g := gb129) (o := .cells #[.slice A1_0 l1_0.length c1_0, .int .i64 a1_1, .int .i64 a1_2, .int .i64 a1_3, .int .i64 a1_4] 28 (0, 0)) (zK BK129) hg (Kd.R_ne HO_5.out BK129.out (by decide)))
          have n2_ := aM (hb)
          have n3_ := aM (ho)
          clear HO_6
          clear BK129
          clear HB
          clear HO_5
          have HO_6 := n0_
          have BK129 := n1_
          have HB := n2_
          have HO142 := n3_
          clear n0_ n1_ n2_ n3_
          clear ho hb hg hat
          refine hK.out _ _ ?_
          clear hK K
          refine zNo (some 42) ?_
          refine zP 10 (some 5) HT_ ?_
          refine done_ (done_of HT_.out (by kernel_rfl)) ?_
          try go_wp2
          go_roundg k2
          case measure => have := HJ2.out; have := HK2.out; omega
          case rel => exact ⟨(y140), (wrap64 (x7_2 + 1)), zS, H', ⟨by have := HJ2.out; have := HK2.out; omega⟩, ⟨by (with_reducible repeat (first | apply Kd.R_alloc | apply Kd.R_drewN | apply Kd.R_drew)); exact HO142.out⟩, ⟨by (with_reducible repeat (first | apply Kd.R_alloc | apply Kd.R_drewN | apply Kd.R_drew)); exact Kd.R_mono HO_6.out (fun _ hk => hk.2)⟩, ⟨zK BK129⟩, ⟨zH⟩⟩
         ·rw [if_neg c24] at H
          exact absurd H (by simp)
        ·rw [if_neg c22] at H
         exact absurd H (by simp)
       ·rw [if_neg c21] at H
        exact absurd H (by simp)
      ·rw [if_neg c20] at H
       have c20b0 : decide (x7_2 ≤ a1_2) = false := decide_eq_false c20
       clear c20
       obtain rfl := Option.some.inj H
       obtain ⟨hcz29_0, hcz29_1, hcz29_2, hcz29_3, hcz29_4⟩ := kk5 BK129
       obtain ⟨hfz29_0, hfz29_1, hfz29_2, hfz29_3, hfz29_4⟩ := kg5 BK129
       go_wp2
       go_ret
       exact ⟨_, zR, by (with_reducible repeat (first | apply Kd.R_alloc | apply Kd.R_drewN | apply Kd.R_drew)); exact Kd.R_mono HO_5.out (fun _ hk => trivial), zH⟩

/-- The first m numbers of a first pass from f on. -/
def firstN (z : List Int) (f low : Int) (m : Nat) : List Int := (List.range m).map fun (i : Nat) => cutI (rd z (f + i)) low
theorem firstN_length (z : List Int) (f low : Int) (m : Nat) : (firstN z f low m).length = m := by simp [firstN]
theorem firstN_succ (z : List Int) (f low : Int) (m : Nat) : firstN z f low (m + 1) = firstN z f low m ++ [cutI (rd z (f + m)) low] := by simp [firstN, List.range_succ]
def firstI (b : List Int) (f t h l : Int) : List Int := if numsB b (-16383) 16383 = true ∧ passB f t h l = true ∧ h = 0 then firstN (toZ b) f l (t - f + 1).toNat else []
theorem sFirst_l0 (z : List Int) (hz : z.length = 64) (hb : ∀ i, -32767 ≤ rd z i ∧ rd z i ≤ 32767) (c : List Int) (f t h low : Int) (h0 : 0 ≤ f) (h1 : f ≤ t) (h2 : t ≤ 63) (h3 : 0 ≤ low) (h4 : low ≤ 13) :
    ∀ (d m : Nat), (m : Int) + d = t - f + 1 → Ev (fun k => spec_FirstOf.l0 k (firstN z f low m) z (f + m) c f t h low) (firstN z f low (t - f + 1).toNat) := by
  intro d
  induction d with
  | zero =>
    intro m hm
    refine Ev.step (fun k => by rw [spec_FirstOf.l0]) ?_
    rw [show (t - f + 1).toNat = m from by omega]
    exact evNeg (by omega) (Ev.now _)
  | succ d ih =>
    intro m hm
    refine Ev.step (fun k => by rw [spec_FirstOf.l0]) ?_
    refine evPos (by omega) (evPos (by omega) (evPos (by omega) (evBind (evConst (l13_f _ _ (hb _) h3 (by omega))) (evPos (by rw [firstN_length]; omega) ?_))))
    rw [w64 (by omega) (by omega)]
    have := ih (m + 1) (by omega)
    rw [firstN_succ, show f + ((m + 1 : Nat) : Int) = f + m + 1 from by omega] at this
    exact this
theorem sFirstOf_f (b c : List Int) (f t h l : Int) : Ev (fun k => spec_FirstOf.f k b c f t h l) (firstI b f t h l) := by
  have no : ¬ (numsB b (-16383) 16383 = true ∧ passB f t h l = true ∧ h = 0) → Ev (fun k => spec_FirstOf.j0 k b [] true c f t h l) (firstI b f t h l) := fun hn => by
    unfold firstI
    rw [if_neg hn]
    exact Ev.step (fun k => by rw [spec_FirstOf.j0]) (evPos rfl (Ev.now _))
  unfold spec_FirstOf.f
  simp only [Option.bind_some]
  refine evBind (sLevel_f b) (evIf (fun hl => ?_) (fun hl => no (fun h => hl h.1)))
  refine evBind (evConst (l12_f c f t h l)) (evIf (fun hp => ?_) (fun hp => no (fun h => hp h.2.1)))
  by_cases hh : h = 0
  · obtain ⟨p1, p2, p3, p4, p5, _⟩ := pass_bounds hp
    rw [show (h != 0) = false from by simp [hh]]
    refine Ev.step (fun k => by rw [spec_FirstOf.j0]) (evNeg (by simp) ?_)
    refine evBind (sToZig_f b (nums_of hl (by omega) (by omega))) ?_
    have := sFirst_l0 (toZ b) (toZ_length b) (toZ_small hl) c f t h l p1 p2 p3 p4 p5 (t - f + 1).toNat 0 (by omega)
    unfold firstI
    rw [if_pos ⟨hl, hp, hh⟩]
    simpa [firstN] using this
  · rw [show (h != 0) = true from by simp [hh]]
    exact no (fun h => hh h.2.2)

/-! ### impl_within: function 101 -/
def impl_within.f (a0 : Int) (a1 : Int) (a2 : Int) : Option (Bool) := if a0 ≥ a1 then (some (decide (a0 ≤ a2))) else (some false)
set_option maxHeartbeats 8000000 in
set_option maxRecDepth 100000 in
theorem impl_within.calls (a0 : Int) (a1 : Int) (a2 : Int) (r : Bool) (w : World) (h : impl_within.f a0 a1 a2 = some r) :
  Calls Try.prog 101 #[.int .i64 a0, .int .i64 a1, .int .i64 a2] w fun e w' => e = .returned (.bool r) ∧ Drawn0 w w' := by
 have H : (if a0 ≥ a1 then (some (decide (a0 ≤ a2))) else (some false)) = some r := h
 clear h
 by_cases c4 : a0 ≥ a1
 ·rw [if_pos c4] at H
  have c4b0 : decide (a1 ≤ a0) = true := decide_eq_true c4
  clear c4
  obtain rfl := Option.some.inj H
  go_enter Try.func101, Try.ntmps101
  go_wp2
  go_ret
  exact ⟨by first | rfl | (simp; done) | (simp [*]; done), by repeat (first | exact Drawn0.refl _ | apply Drawn0.step)⟩
 ·rw [if_neg c4] at H
  have c4b0 : decide (a1 ≤ a0) = false := decide_eq_false c4
  clear c4
  obtain rfl := Option.some.inj H
  go_enter Try.func101, Try.ntmps101
  go_wp2
  go_ret
  exact ⟨by first | rfl | (simp; done) | (simp [*]; done), by repeat (first | exact Drawn0.refl _ | apply Drawn0.step)⟩

theorem within_f (a b c : Int) : impl_within.f a b c = some (inR a b c) := inR_ite a b c

/-! ### impl_allWithin: function 111 -/
def impl_allWithin.l0 : Nat → Int → Int → List Int → Int → Int → Option (Bool)
  | 0, _, _, _, _, _ => none
  | k + 1, x1, x2, x9, x10, x11 => if x11 < x10 then (if 0 ≤ x11 then (if x11 < (x9.length : Int) then ((impl_within.f (rd x9 x11) x1 x2).bind fun t144 => (if t144 = true then (impl_allWithin.l0 k x1 x2 x9 x10 (wrap64 (x11 + 1))) else (some false))) else (none)) else (none)) else (some true)
def impl_allWithin.f (k : Nat) (l0 : List Int) (a1 : Int) (a2 : Int) : Option (Bool) := impl_allWithin.l0 k a1 a2 l0 (l0.length : Int) 0
set_option maxHeartbeats 8000000 in
set_option maxRecDepth 100000 in
theorem impl_allWithin.calls (k : Nat) (A0 : Option Addr) (c0 : Nat) (l0 : List Int) (a1 : Int) (a2 : Int) (r : Bool) (w : World) (hr0 : Kd.C (Kd.int .i64) w A0 l0.length l0) (hc0 : l0.length ≤ c0) (h : impl_allWithin.f k l0 a1 a2 = some r) :
  Calls Try.prog 111 #[.slice A0 l0.length c0, .int .i64 a1, .int .i64 a2] w fun e w' => e = .returned (.bool r) ∧ Drawn0 w w' := by
 have HR0 := aM hr0
 have HC0 := aM hc0
 clear hr0 hc0
 have H : (impl_allWithin.l0 k a1 a2 l0 (l0.length : Int) 0) = some r := h
 clear h
 have H' := aM H
 clear H
 go_enter Try.func111, Try.ntmps111
 go_wp2
 go_loopg [11] k (fun kq v11 w' => ∃ (x11_1 : Int), v11 = .int .i64 x11_1 ∧ Aside0 (impl_allWithin.l0 kq a1 a2 l0 (l0.length : Int) x11_1 = some r) ∧ Aside0 (kq ≤ k) ∧ Drawn0 w w')
 case atStart => exact ⟨(0), zS, H', ⟨Nat.le_refl _⟩, by repeat (first | exact Drawn0.refl _ | apply Drawn0.step)⟩
 case round =>
  clear H'
  obtain ⟨x11_1, rfl, HA, HK1, ⟨m1, rfl⟩⟩ := hrel
  cases gk with
  | zero => exact absurd HA.out (by simp [impl_allWithin.l0])
  | succ k1 =>
   have H := HA.out
   clear HA
   simp only [impl_allWithin.l0] at H
   by_cases c4 : x11_1 < (l0.length : Int)
   ·rw [if_pos c4] at H
    have c4b0 : decide (x11_1 < (l0.length : Int)) = true := decide_eq_true c4
    clear c4
    by_cases c5 : 0 ≤ x11_1
    ·rw [if_pos c5] at H
     have c5b0 : decide (0 ≤ x11_1) = true := decide_eq_true c5
     clear c5
     by_cases c6 : x11_1 < (l0.length : Int)
     ·rw [if_pos c6] at H
      have c6b0 : decide (x11_1 < (l0.length : Int)) = true := decide_eq_true c6
      clear c6
      obtain ⟨t144, A7, H⟩ := oH H
      by_cases c8 : t144 = true
      ·subst c8
       replace H := iT H
       have H' := aM H
       clear H
       have p143 : 0 ≤ (x11_1 : Int) := zA
       have q143 : x11_1 < (l0.length : Int) := zA
       obtain ⟨ad143, e143, hx143_0⟩ := Kd.at_int HR0.out x11_1 p143 q143
       cases e143
       replace p143 := eq_true p143
       replace q143 := eq_true q143
       go_wp2_with (first | (go_at_call 101; (with_reducible refine (impl_within.calls (rd l0 x11_1) a1 a2 true _ A7.out).mono ?_); rintro e w' ⟨rfl, ⟨nd, rfl⟩⟩))
       go_roundg k1
       case measure => have := HK1.out; omega
       case rel => exact ⟨(wrap64 (x11_1 + 1)), zS, H', ⟨by have := HK1.out; omega⟩, by repeat (first | exact Drawn0.refl _ | apply Drawn0.step)⟩
      ·replace c8 := Bool.eq_false_iff.mpr c8
       subst c8
       replace H := iF H
       obtain rfl := Option.some.inj H
       have p143 : 0 ≤ (x11_1 : Int) := zA
       have q143 : x11_1 < (l0.length : Int) := zA
       obtain ⟨ad143, e143, hx143_0⟩ := Kd.at_int HR0.out x11_1 p143 q143
       cases e143
       replace p143 := eq_true p143
       replace q143 := eq_true q143
       go_wp2_with (first | (go_at_call 101; (with_reducible refine (impl_within.calls (rd l0 x11_1) a1 a2 false _ A7.out).mono ?_); rintro e w' ⟨rfl, ⟨nd, rfl⟩⟩))
       go_ret
       exact ⟨by first | rfl | (simp; done) | (simp [*]; done), by repeat (first | exact Drawn0.refl _ | apply Drawn0.step)⟩
     ·rw [if_neg c6] at H
      exact absurd H (by simp)
    ·rw [if_neg c5] at H
     exact absurd H (by simp)
   ·rw [if_neg c4] at H
    have c4b0 : decide (x11_1 < (l0.length : Int)) = false := decide_eq_false c4
    clear c4
    obtain rfl := Option.some.inj H
    go_wp2
    go_ret
    exact ⟨by first | rfl | (simp; done) | (simp [*]; done), by repeat (first | exact Drawn0.refl _ | apply Drawn0.step)⟩

theorem allWithin_l0 (lo up : Int) (l : List Int) (hl : l.length ≤ maxLen) : ∀ (d i : Nat), i + d = l.length → Ev (fun k => impl_allWithin.l0 k lo up l (l.length : Int) i) (allR (l.drop i) lo up) := by
  unfold maxLen at hl
  intro d
  induction d with
  | zero =>
    intro i hi
    refine Ev.step (fun k => by rw [impl_allWithin.l0]) ?_
    rw [List.drop_eq_nil_of_le (by omega)]
    exact evNeg (by omega) (Ev.now true)
  | succ d ih =>
    intro i hi
    have h1 : i < l.length := by omega
    refine Ev.step (fun k => by rw [impl_allWithin.l0]) ?_
    refine evPos (by omega) (evPos (by omega) (evPos (by omega) ?_))
    rw [drop_get h1, rd_nat h1, within_f]
    simp only [Option.bind_some, allR, List.all_cons]
    cases inR l[i] lo up with
    | false => exact evNeg (by simp) (Ev.now false)
    | true =>
      refine evPos rfl ?_
      rw [w64 (by omega) (by omega)]
      exact ih (i + 1) (by omega)
theorem allWithin_f (l : List Int) (lo hi : Int) (hl : l.length ≤ maxLen) : Ev (fun k => impl_allWithin.f k l lo hi) (allR l lo hi) := by
  have := allWithin_l0 lo hi l hl l.length 0 (by omega)
  simpa [impl_allWithin.f] using this

/-! ### impl_isLevels: function 73 -/
def impl_isLevels.f (k : Nat) (l0 : List Int) : Option (Bool) := if (l0.length : Int) = 64 then ((impl_allWithin.f k l0 (-16383) 16383).bind fun t145 => (some t145)) else (some false)
set_option maxHeartbeats 8000000 in
set_option maxRecDepth 100000 in
theorem impl_isLevels.calls (k : Nat) (A0 : Option Addr) (c0 : Nat) (l0 : List Int) (r : Bool) (w : World) (hr0 : Kd.C (Kd.int .i64) w A0 l0.length l0) (hc0 : l0.length ≤ c0) (h : impl_isLevels.f k l0 = some r) :
  Calls Try.prog 73 #[.slice A0 l0.length c0] w fun e w' => e = .returned (.bool r) ∧ Drawn0 w w' := by
 have HR0 := aM hr0
 have HC0 := aM hc0
 clear hr0 hc0
 have H : (if (l0.length : Int) = 64 then ((impl_allWithin.f k l0 (-16383) 16383).bind fun t145 => (some t145)) else (some false)) = some r := h
 clear h
 by_cases c2 : (l0.length : Int) = 64
 ·rw [if_pos c2] at H
  have c2b0 : ((l0.length : Int) == 64) = true := beq_iff_eq.mpr c2
  have c2b1 : ((l0.length : Int) != 64) = false := bne_eq_false_iff_eq.mpr c2
  clear c2
  obtain ⟨t145, A3, H⟩ := oH H
  obtain rfl := Option.some.inj H
  go_enter Try.func73, Try.ntmps73
  go_wp2_with (first | (go_at_call 111; (with_reducible refine (impl_allWithin.calls k _ _ l0 (-16383) 16383 t145 _ ?side1 ?side2 A3.out).mono ?_); (case side1 => exact zC HR0.out); (case side2 => exact HC0.out); rintro e w' ⟨rfl, ⟨nd, rfl⟩⟩))
  go_ret
  exact ⟨by first | rfl | (simp; done) | (simp [*]; done), by repeat (first | exact Drawn0.refl _ | apply Drawn0.step)⟩
 ·rw [if_neg c2] at H
  have c2b0 : ((l0.length : Int) == 64) = false := beq_eq_false_iff_ne.mpr c2
  have c2b1 : ((l0.length : Int) != 64) = true := bne_iff_ne.mpr c2
  obtain rfl := Option.some.inj H
  go_enter Try.func73, Try.ntmps73
  go_wp2
  go_ret
  exact ⟨by first | rfl | (simp; done) | (simp [*]; done), by repeat (first | exact Drawn0.refl _ | apply Drawn0.step)⟩

theorem isLevels_f (l : List Int) : Ev (fun k => impl_isLevels.f k l) (numsB l (-16383) 16383) := by
  unfold impl_isLevels.f numsB
  refine evIf (fun h => ?_) (fun h => ?_)
  · rw [decide_eq_true h, Bool.true_and]
    exact evBind (allWithin_f l _ _ (by unfold maxLen; omega)) (Ev.now _)
  · rw [decide_eq_false h, Bool.false_and]
    exact Ev.now _

/-! ### impl_Scan_isPass: function 74 -/
def impl_Scan_isPass.f (l0_0 : List Int) (a0_1 : Int) (a0_2 : Int) (a0_3 : Int) (a0_4 : Int) : Option (Bool) := (impl_within.f a0_2 0 63).bind fun t147 => (if t147 = true then ((impl_within.f a0_1 0 a0_2).bind fun t148 => (if t148 = true then ((impl_within.f a0_4 0 13).bind fun t149 => (if t149 = true then (if a0_3 = 0 then (some true) else (some (a0_3 == (wrap64 (a0_4 + 1))))) else (some false))) else (some false))) else (some false))
set_option maxHeartbeats 8000000 in
set_option maxRecDepth 100000 in
theorem impl_Scan_isPass.calls (A0_0 : Option Addr) (c0_0 : Nat) (l0_0 : List Int) (a0_1 : Int) (a0_2 : Int) (a0_3 : Int) (a0_4 : Int) (r : Bool) (w : World) (hr0_0 : Kd.C (Kd.int .i64) w A0_0 l0_0.length l0_0) (hc0_0 : l0_0.length ≤ c0_0) (h : impl_Scan_isPass.f l0_0 a0_1 a0_2 a0_3 a0_4 = some r) :
  Calls Try.prog 74 #[.agg #[.slice A0_0 l0_0.length c0_0, .int .i64 a0_1, .int .i64 a0_2, .int .i64 a0_3, .int .i64 a0_4]] w fun e w' => e = .returned (.bool r) ∧ Below w.heap.size w w' := by
 have hu28 := Try.underlying28
 have HR0_0 := aM hr0_0
 have HC0_0 := aM hc0_0
 clear hr0_0 hc0_0
 have HB := aM (Below.refl w.heap.size w)
 have H : ((impl_within.f a0_2 0 63).bind fun t147 => (if t147 = true then ((impl_within.f a0_1 0 a0_2).bind fun t148 => (if t148 = true then ((impl_within.f a0_4 0 13).bind fun t149 => (if t149 = true then (if a0_3 = 0 then (some true) else (some (a0_3 == (wrap64 (a0_4 + 1))))) else (some false))) else (some false))) else (some false))) = some r := h
 clear h
 obtain ⟨t147, A2, H⟩ := oH H
 by_cases c3 : t147 = true
 ·subst c3
  replace H := iT H
  obtain ⟨t148, A4, H⟩ := oH H
  by_cases c5 : t148 = true
  ·subst c5
   replace H := iT H
   obtain ⟨t149, A6, H⟩ := oH H
   by_cases c7 : t149 = true
   ·subst c7
    replace H := iT H
    by_cases c8 : a0_3 = 0
    ·rw [if_pos c8] at H
     have c8b0 : (a0_3 == 0) = true := beq_iff_eq.mpr c8
     have c8b1 : (a0_3 != 0) = false := bne_eq_false_iff_eq.mpr c8
     clear c8
     obtain rfl := Option.some.inj H
     go_enter Try.func74, Try.ntmps74
     go_wp2_with (first | ((with_reducible refine gate_dst (N := 1) rfl ?_); refine box_event ?hg (N := 1) ?hd (cs := #[.slice A0_0 l0_0.length c0_0, .int .i64 a0_1, .int .i64 a0_2, .int .i64 a0_3, .int .i64 a0_4]) (t := 28) ?hr ?_; (case hd => rfl); (case hg => rfl); (case hr => first | (go_simp; done) | (go_simp; rfl)); intro gb146 hg w9 hbox hb; have BK146 := aM hbox; have GW146 := aM (zG hg : w.heap.size ≤ gb146); have GE146 := aM (zG hg : w.heap.size ≤ gb146); replace HB := cH HB hb; clear hb hbox hg; obtain ⟨hcz10_0, hcz10_1, hcz10_2, hcz10_3, hcz10_4⟩ := kk5 BK146; obtain ⟨hfz10_0, hfz10_1, hfz10_2, hfz10_3, hfz10_4⟩ := kg5 BK146) | ((with_reducible refine gate_callee (f := 101) rfl ?_); refine zGl (some 5) Try.func101 #[.int .i64 a0_2, .int .i64 0, .int .i64 63] ?_; (with_reducible refine (impl_within.calls a0_2 0 63 true _ A2.out).mono ?_); rintro e w' ⟨rfl, ⟨nd, rfl⟩⟩; refine ⟨_, rfl, ?_⟩) | (go_at_call 101; (with_reducible refine (impl_within.calls a0_1 0 a0_2 true _ A4.out).mono ?_); rintro e w' ⟨rfl, ⟨nd, rfl⟩⟩) | (go_at_call 101; (with_reducible refine (impl_within.calls a0_4 0 13 true _ A6.out).mono ?_); rintro e w' ⟨rfl, ⟨nd, rfl⟩⟩))
     go_ret
     exact ⟨zR, zH⟩
    ·rw [if_neg c8] at H
     have c8b0 : (a0_3 == 0) = false := beq_eq_false_iff_ne.mpr c8
     have c8b1 : (a0_3 != 0) = true := bne_iff_ne.mpr c8
     obtain rfl := Option.some.inj H
     go_enter Try.func74, Try.ntmps74
     go_wp2_with (first | ((with_reducible refine gate_dst (N := 1) rfl ?_); refine box_event ?hg (N := 1) ?hd (cs := #[.slice A0_0 l0_0.length c0_0, .int .i64 a0_1, .int .i64 a0_2, .int .i64 a0_3, .int .i64 a0_4]) (t := 28) ?hr ?_; (case hd => rfl); (case hg => rfl); (case hr => first | (go_simp; done) | (go_simp; rfl)); intro gb146 hg w11 hbox hb; have BK146 := aM hbox; have GW146 := aM (zG hg : w.heap.size ≤ gb146); have GE146 := aM (zG hg : w.heap.size ≤ gb146); replace HB := cH HB hb; clear hb hbox hg; obtain ⟨hcz12_0, hcz12_1, hcz12_2, hcz12_3, hcz12_4⟩ := kk5 BK146; obtain ⟨hfz12_0, hfz12_1, hfz12_2, hfz12_3, hfz12_4⟩ := kg5 BK146) | ((with_reducible refine gate_callee (f := 101) rfl ?_); refine zGl (some 5) Try.func101 #[.int .i64 a0_2, .int .i64 0, .int .i64 63] ?_; (with_reducible refine (impl_within.calls a0_2 0 63 true _ A2.out).mono ?_); rintro e w' ⟨rfl, ⟨nd, rfl⟩⟩; refine ⟨_, rfl, ?_⟩) | (go_at_call 101; (with_reducible refine (impl_within.calls a0_1 0 a0_2 true _ A4.out).mono ?_); rintro e w' ⟨rfl, ⟨nd, rfl⟩⟩) | (go_at_call 101; (with_reducible refine (impl_within.calls a0_4 0 13 true _ A6.out).mono ?_); rintro e w' ⟨rfl, ⟨nd, rfl⟩⟩))
     go_ret
     exact ⟨zR, zH⟩
   ·replace c7 := Bool.eq_false_iff.mpr c7
    subst c7
    replace H := iF H
    obtain rfl := Option.some.inj H
    go_enter Try.func74, Try.ntmps74
    go_wp2_with (first | ((with_reducible refine gate_dst (N := 1) rfl ?_); refine box_event ?hg (N := 1) ?hd (cs := #[.slice A0_0 l0_0.length c0_0, .int .i64 a0_1, .int .i64 a0_2, .int .i64 a0_3, .int .i64 a0_4]) (t := 28) ?hr ?_; (case hd => rfl); (case hg => rfl); (case hr => first | (go_simp; done) | (go_simp; rfl)); intro gb146 hg w13 hbox hb; have BK146 := aM hbox; have GW146 := aM (zG hg : w.heap.size ≤ gb146); have GE146 := aM (zG hg : w.heap.size ≤ gb146); replace HB := cH HB hb; clear hb hbox hg; obtain ⟨hcz14_0, hcz14_1, hcz14_2, hcz14_3, hcz14_4⟩ := kk5 BK146; obtain ⟨hfz14_0, hfz14_1, hfz14_2, hfz14_3, hfz14_4⟩ := kg5 BK146) | ((with_reducible refine gate_callee (f := 101) rfl ?_); refine zGl (some 5) Try.func101 #[.int .i64 a0_2, .int .i64 0, .int .i64 63] ?_; (with_reducible refine (impl_within.calls a0_2 0 63 true _ A2.out).mono ?_); rintro e w' ⟨rfl, ⟨nd, rfl⟩⟩; refine ⟨_, rfl, ?_⟩) | (go_at_call 101; (with_reducible refine (impl_within.calls a0_1 0 a0_2 true _ A4.out).mono ?_); rintro e w' ⟨rfl, ⟨nd, rfl⟩⟩) | (go_at_call 101; (with_reducible refine (impl_within.calls a0_4 0 13 false _ A6.out).mono ?_); rintro e w' ⟨rfl, ⟨nd, rfl⟩⟩))
    go_ret
    exact ⟨zR, zH⟩
  ·replace c5 := Bool.eq_false_iff.mpr c5
   subst c5
   replace H := iF H
   obtain rfl := Option.some.inj H
   go_enter Try.func74, Try.ntmps74
   go_wp2_with (first | ((with_reducible refine gate_dst (N := 1) rfl ?_); refine box_event ?hg (N := 1) ?hd (cs := #[.slice A0_0 l0_0.length c0_0, .int .i64 a0_1, .int .i64 a0_2, .int .i64 a0_3, .int .i64 a0_4]) (t := 28) ?hr ?_; (case hd => rfl); (case hg => rfl); (case hr => first | (go_simp; done) | (go_simp; rfl)); intro gb146 hg w15 hbox hb; have BK146 := aM hbox; have GW146 := aM (zG hg : w.heap.size ≤ gb146); have GE146 := aM (zG hg : w.heap.size ≤ gb146); replace HB := cH HB hb; clear hb hbox hg; obtain ⟨hcz16_0, hcz16_1, hcz16_2, hcz16_3, hcz16_4⟩ := kk5 BK146; obtain ⟨hfz16_0, hfz16_1, hfz16_2, hfz16_3, hfz16_4⟩ := kg5 BK146) | ((with_reducible refine gate_callee (f := 101) rfl ?_); refine zGl (some 5) Try.func101 #[.int .i64 a0_2, .int .i64 0, .int .i64 63] ?_; (with_reducible refine (impl_within.calls a0_2 0 63 true _ A2.out).mono ?_); rintro e w' ⟨rfl, ⟨nd, rfl⟩⟩; refine ⟨_, rfl, ?_⟩) | (go_at_call 101; (with_reducible refine (impl_within.calls a0_1 0 a0_2 false _ A4.out).mono ?_); rintro e w' ⟨rfl, ⟨nd, rfl⟩⟩))
   go_ret
   exact ⟨zR, zH⟩
 ·replace c3 := Bool.eq_false_iff.mpr c3
  subst c3
  replace H := iF H
  obtain rfl := Option.some.inj H
  go_enter Try.func74, Try.ntmps74
  go_wp2_with (first | ((with_reducible refine gate_dst (N := 1) rfl ?_); refine box_event ?hg (N := 1) ?hd (cs := #[.slice A0_0 l0_0.length c0_0, .int .i64 a0_1, .int .i64 a0_2, .int .i64 a0_3, .int .i64 a0_4]) (t := 28) ?hr ?_; (case hd => rfl); (case hg => rfl); (case hr => first | (go_simp; done) | (go_simp; rfl)); intro gb146 hg w17 hbox hb; have BK146 := aM hbox; have GW146 := aM (zG hg : w.heap.size ≤ gb146); have GE146 := aM (zG hg : w.heap.size ≤ gb146); replace HB := cH HB hb; clear hb hbox hg; obtain ⟨hcz18_0, hcz18_1, hcz18_2, hcz18_3, hcz18_4⟩ := kk5 BK146; obtain ⟨hfz18_0, hfz18_1, hfz18_2, hfz18_3, hfz18_4⟩ := kg5 BK146) | ((with_reducible refine gate_callee (f := 101) rfl ?_); refine zGl (some 5) Try.func101 #[.int .i64 a0_2, .int .i64 0, .int .i64 63] ?_; (with_reducible refine (impl_within.calls a0_2 0 63 false _ A2.out).mono ?_); rintro e w' ⟨rfl, ⟨nd, rfl⟩⟩; refine ⟨_, rfl, ?_⟩))
  go_ret
  exact ⟨zR, zH⟩

end Go.Proofs.Ythajjjpblkhmmaa.CP
