/- Functions that a law of this seat reaches: written by a program of this session (wip/xprint.py), and by hand. -/
import Derived.Test.YtdeheflbigggbaaCMx0
import Derived.Test.YtdeheflbigggbaaCMx2
import Derived.Test.YtdeheflbigggbaaCMx5
namespace Go.Proofs.Ytdeheflbigggbaa.CM
open Go.RowKit Go.Proofs.Ytdeheflbigggbaa.B Go.Proofs.YtdeheflbigggbaaW.PrintWords Go.Proofs.YtdeheflbigggbaaW.PrintLast Go.Proofs.YtdeheflbigggbaaW.PrintMore
attribute [local go_sem] max2_int min2_int max_two min_two max_three min_three max_four min_four   -- for this text's walks alone
set_option linter.unusedVariables false
set_option linter.unusedSimpArgs false

/-! ### impl_ReadNums: function 37 (by hand) -/
def stN (b : List Int) (base : Int) : Nat → Dec
  | 0 => startD b
  | k + 1 => (numD b base (stN b base k)).2
def outN (b : List Int) (base : Int) : Nat → List Int
  | 0 => []
  | k + 1 => outN b base k ++ [(numD b base (stN b base k)).1]
theorem outN_length (b : List Int) (base : Int) : ∀ k : Nat, (outN b base k).length = k
  | 0 => rfl
  | k + 1 => by unfold outN; rw [List.length_append, outN_length b base k]; rfl
theorem stN_ok {b : List Int} (hb : BytesOk b) {base : Int} (h0 : 0 ≤ base) (h1 : base ≤ 380) : ∀ k : Nat, DecOk (stN b base k) ∧ (stN b base k).at_ ≤ 4 + 40 * k
  | 0 => ⟨startD_ok hb, Nat.le_refl _⟩
  | k + 1 => by
    have ih := stN_ok hb h0 h1 k
    have := numD_ok hb h0 h1 ih.1
    exact ⟨this.1, by show (numD b base (stN b base k)).2.at_ ≤ _; omega⟩
def readI (b : List Int) (n base : Int) : List Int := if inR n 0 4096 && inR base 0 380 then outN b base n.toNat else []
def impl_ReadNums.f (l0 : List Int) (a1 a2 : Int) : Option (List Int) := if bytesB l0 = true ∧ l0.length ≤ 4611686018427387904 then some (readI l0 a1 a2) else none
set_option maxHeartbeats 4000000 in
set_option maxRecDepth 100000 in
theorem impl_ReadNums.calls (A0 : Option Addr) (c0 : Nat) (l0 : List Int) (a1 a2 : Int) (r : List Int) (w : World) (hr0 : Kd.C (Kd.int .u8) w A0 l0.length l0) (hc0 : l0.length ≤ c0) (h : impl_ReadNums.f l0 a1 a2 = some r) :
    Calls Try.prog 37 #[.slice A0 l0.length c0, .int .i64 a1, .int .i64 a2] w fun e w' => ∃ v0_ : Value, e = .returned (v0_) ∧ Kd.R (Kd.int .i64) 3 w' w.heap.size (fun _ => True) v0_ r ∧ Below w.heap.size w w' := by
  unfold impl_ReadNums.f at h
  by_cases hl : bytesB l0 = true ∧ l0.length ≤ 4611686018427387904
  · rw [if_pos hl] at h
    obtain rfl := Option.some.inj h
    clear h
    have HBS := Aside0.mk (bytesB_ok hl.1)
    have HR0 := Aside0.mk hr0
    have HC0 := Aside0.mk hc0
    have hd0 : l0.length ≤ 4611686018427387904 := hl.2
    clear hr0 hc0 hl
    by_cases cn : inR a1 0 4096 = true
    · have CN := Aside0.mk cn
      by_cases cb : inR a2 0 380 = true
      · have CB := Aside0.mk (show baseB a2 = true from cb)
        rw [inR_iff] at cn cb
        obtain ⟨N, rfl⟩ := Int.eq_ofNat_of_zero_le cn.1
        have hN : N ≤ 4096 := by omega
        have hb0 : 0 ≤ a2 := cb.1
        have hb1 : a2 ≤ 380 := cb.2
        have HE := Aside0.mk (show readI l0 (N : Int) a2 = outN l0 a2 N from by unfold readI; rw [CN.out, show inR a2 0 380 = true from CB.out]; rfl)
        rw [HE.out]
        clear HE cn cb
        go_enter Try.func37, Try.ntmps37
        go_wp2_with (first
          | (go_at_call 75; (with_reducible refine (boolCall (impl_within.calls (N : Int) 0 4096 _ _ (within_f _ _ _)) CN.out).mono ?_); rintro e w0 ⟨rfl, hb1⟩; have HB0 := Aside0.mk hb1.below; clear hb1)
          | (go_at_call 61; (with_reducible refine (boolCall (impl_isBase.calls a2 _ _ (isBase_f _)) CB.out).mono ?_); rintro e w1 ⟨rfl, hb1⟩; have HB := Aside0.mk (below_step HB0.out hb1.below); clear hb1)
          | (go_at_call 72; (with_reducible refine (iNewReader_calls A0 c0 l0 _ _ (Kd.C_below HR0.out HB.out) HC0.out (Below.refl _ _) HBS.out).mono ?_); rintro e W2 ⟨r, p, rfl, hd, hb2⟩; have HD0 := Aside0.mk hd; have HB2 := Aside0.mk hb2; clear hd hb2))
        obtain ⟨W3, HW3⟩ : ∃ W3, Aside0 (W3 = W2.alloc (.cells #[] 3)) := ⟨_, ⟨rfl⟩⟩
        have HBW := Aside0.mk (show Below w.heap.size w W3 from by rw [HW3.out]; exact below_alloc (below_step HB.out HB2.out) _)
        have HB3 := Aside0.mk (show Below w1.heap.size w1 W3 from by rw [HW3.out]; exact below_alloc HB2.out _)
        have HD3 := Aside0.mk (show DecAt w1 W3 r p l0 (stN l0 a2 0) from by rw [HW3.out]; exact dec_alloc HD0.out _)
        have HO3 := Aside0.mk (show Kd.R (Kd.int .i64) 3 W3 w1.heap.size (fun j => j ≠ r ∧ j ≠ p) (.slice (some ⟨W2.heap.size, 0, none⟩) 0 0) (outN l0 a2 0) from by rw [HW3.out]; exact lit_ints HB2.out _ _ _ (dec_fresh HD0.out))
        rw [← HW3.out]
        clear HW3 HD0 HB2 HB0
        go_loopg [8, 21] N (fun kq v8 v21 w' => ∃ (k : Nat), v21 = .int .i64 (k : Int) ∧ Aside0 (k + kq = N) ∧ Aside0 (DecAt w1 w' r p l0 (stN l0 a2 k)) ∧ Aside0 (Kd.R (Kd.int .i64) 3 w' w1.heap.size (fun j => j ≠ r ∧ j ≠ p) v8 (outN l0 a2 k)) ∧ Aside0 (Below w1.heap.size w1 w') ∧ Aside0 (Below w.heap.size w w'))
        case atStart => exact ⟨0, rfl, ⟨by omega⟩, HD3, HO3, HB3, HBW⟩
        case round =>
          clear HD3 HO3 HB3 HBW
          obtain ⟨k, rfl, HQ, HD, HO, HBB, HBW⟩ := hrel
          by_cases hk : k < N
          · have hki : (k : Int) < (N : Int) := by omega
            have hst := stN_ok HBS.out hb0 hb1 k
            have hkn : k ≤ 4096 := by omega
            have HLN := Aside0.mk (outN_length l0 a2 k)
            have HST := Aside0.mk hst.1
            have HTT := Aside0.mk (show (stN l0 a2 k).at_ ≤ 900000000 from by have := hst.2; omega)
            clear hst
            go_wp2_with (first
              | (go_at_call 76; (with_reducible refine (iNum_calls r p l0 (stN l0 a2 k) a2 w1 _ HD.out HST.out hb0 hb1 HBB.out HBS.out HTT.out).mono ?_); rintro e W4 ⟨rfl, d4, b4, k4⟩; have HO4 := Aside0.mk (out_keep HO.out k4); have HD4 := Aside0.mk d4; have HB4 := Aside0.mk b4; clear d4 b4 k4)
              | ((with_reducible refine gate_builtin (b := .append) (xs := #[.tmp 23, .tmp 27]) rfl ?_); at_builtin; refine Kd.R_append (Kd.int .i64) (w0 := w1) w1.heap.size rfl (.tmp 23) (.tmp 27) 34 3 (.int .i64 0) 8 rfl Try.underlying34 info3 rfl (by decide) (by omega) u8 (outN l0 a2 k) (numD l0 a2 (stN l0 a2 k)).1 [.int .i64 (numD l0 a2 (stN l0 a2 k)).1] (fun j => j ≠ r ∧ j ≠ p) (fun _ => False) rfl rfl ?aP (fun _ hk => hk.elim) ?aF ?aO ?aB ?aS ?aL ?_; (case aP => exact rfl); (case aF => exact dec_above HD4.out); (case aO => exact HO4.out); (case aB => exact HB4.out); (case aS => exact HB4.out.size); (case aL => rw [HLN.out]; omega); intro v1 w5 ho hb hg hat; have HD5 := Aside0.mk (dec_grown HD4.out HO4.out hg); have HO5 := Aside0.mk ho; have HB5 := Aside0.mk hb; clear ho hb hg hat))
            go_roundg (N - (k + 1))
            case measure => have := HQ.out; omega
            case rel => exact ⟨k + 1, by first | rfl | go_num | simp, ⟨by have := HQ.out; omega⟩, HD5, HO5, HB5, ⟨below_step HB.out HB5.out⟩⟩
          · have hki : ¬ (k : Int) < (N : Int) := by omega
            have e := HQ.out
            obtain rfl : k = N := by omega
            clear e
            go_wp2
            go_ret
            exact ⟨_, rfl, Kd.R_lower (Kd.R_mono HO.out (fun _ _ => trivial)) (below_size HB.out), HBW.out⟩
      · have CB := Aside0.mk (show baseB a2 = false from Bool.eq_false_iff.2 cb)
        have HE := Aside0.mk (show readI l0 a1 a2 = [] from by unfold readI; rw [show inR a2 0 380 = false from CB.out, Bool.and_false]; rfl)
        rw [HE.out]
        clear HE cn cb
        go_enter Try.func37, Try.ntmps37
        go_wp2_with (first
          | (go_at_call 75; (with_reducible refine (boolCall (impl_within.calls a1 0 4096 _ _ (within_f _ _ _)) CN.out).mono ?_); rintro e w0 ⟨rfl, hb1⟩; have HB0 := Aside0.mk hb1.below; clear hb1)
          | (go_at_call 61; (with_reducible refine (boolCall (impl_isBase.calls a2 _ _ (isBase_f _)) CB.out).mono ?_); rintro e w1 ⟨rfl, hb1⟩; have HB := Aside0.mk (below_step HB0.out hb1.below); clear hb1))
        go_ret
        exact ⟨_, rfl, Kd.R_nil _ _ _ _ _, HB.out⟩
    · have CN := Aside0.mk (Bool.eq_false_iff.2 cn)
      have HE := Aside0.mk (show readI l0 a1 a2 = [] from by unfold readI; rw [CN.out, Bool.false_and]; rfl)
      rw [HE.out]
      clear HE cn
      go_enter Try.func37, Try.ntmps37
      go_wp2_with (go_at_call 75; (with_reducible refine (boolCall (impl_within.calls a1 0 4096 _ _ (within_f _ _ _)) CN.out).mono ?_); rintro e w0 ⟨rfl, hb1⟩; have HB0 := Aside0.mk hb1.below; clear hb1)
      go_ret
      exact ⟨_, rfl, Kd.R_nil _ _ _ _ _, HB0.out⟩
  · rw [if_neg hl] at h
    cases h
theorem readI_length (b : List Int) (n base : Int) : (readI b n base).length ≤ 4096 := by
  unfold readI
  split
  · rename_i h
    simp only [Bool.and_eq_true, inR_iff] at h
    rw [outN_length]
    omega
  · simp
theorem iRead_f (b : List Int) (n base : Int) (hb : bytesB b = true) (h0 : b.length ≤ 4611686018427387904) : impl_ReadNums.f b n base = some (readI b n base) := by unfold impl_ReadNums.f; rw [if_pos ⟨hb, h0⟩]

/-! ### laws_sameInts: function 42 -/
def laws_sameInts.l0 : Nat → List Int → List Int → Int → Option (Bool)
  | 0, _, _, _ => none
  | k + 1, x0, x1, x5 => if x5 < (x0.length : Int) then (if 0 ≤ x5 then (if x5 < (x1.length : Int) then (if (rd x0 x5) = (rd x1 x5) then (laws_sameInts.l0 k x0 x1 (wrap64 (x5 + 1))) else (some false)) else (none)) else (none)) else (some true)
def laws_sameInts.f (k : Nat) (l0 : List Int) (l1 : List Int) : Option (Bool) := if (l0.length : Int) = (l1.length : Int) then (laws_sameInts.l0 k l0 l1 0) else (some false)
theorem laws_sameInts.mono_l : ∀ k, (∀ y0 y1 y2, LeO (laws_sameInts.l0 k y0 y1 y2) (laws_sameInts.l0 (k + 1) y0 y1 y2))
  | 0 => fun _ _ _ r h => by simp [laws_sameInts.l0] at h
  | k + 1 => by
    have ih0 := laws_sameInts.mono_l k
    · intro y0 y1 y2
      unfold laws_sameInts.l0
      repeat' first
      | (with_reducible exact ih0 _ _ _)
      | (with_reducible exact LeO.refl _)
      | (with_reducible exact LeO.none _)
      | (with_reducible refine LeO.ite ?_ ?_)
      | (with_reducible refine LeO.bind ?_ (fun _ => ?_))
      | exact ih0 _ _ _
      | exact LeO.none _
      | refine LeO.ite ?_ ?_
      | refine LeO.bind ?_ (fun _ => ?_)
theorem laws_sameInts.mono : ∀ a0 a1 k, LeO (laws_sameInts.f k a0 a1) (laws_sameInts.f (k + 1) a0 a1) := by
  intro a0 a1 k
  have ih0 := laws_sameInts.mono_l k
  unfold laws_sameInts.f
  repeat' first
      | (with_reducible exact ih0 _ _ _)
      | (with_reducible exact LeO.refl _)
      | (with_reducible exact LeO.none _)
      | (with_reducible refine LeO.ite ?_ ?_)
      | (with_reducible refine LeO.bind ?_ (fun _ => ?_))
      | exact ih0 _ _ _
      | exact LeO.none _
      | refine LeO.ite ?_ ?_
      | refine LeO.bind ?_ (fun _ => ?_)
set_option maxHeartbeats 8000000 in
set_option maxRecDepth 100000 in
theorem laws_sameInts.calls (k : Nat) (A0 : Option Addr) (c0 : Nat) (l0 : List Int) (A1 : Option Addr) (c1 : Nat) (l1 : List Int) (r : Bool) (w : World) (hr0 : Kd.C (Kd.int .i64) w A0 l0.length l0) (hc0 : l0.length ≤ c0) (hr1 : Kd.C (Kd.int .i64) w A1 l1.length l1) (hc1 : l1.length ≤ c1) (h : laws_sameInts.f k l0 l1 = some r) :
    Calls Try.prog 42 #[.slice A0 l0.length c0, .slice A1 l1.length c1] w fun e w' => e = .returned (.bool r) ∧ Drawn0 w w' := by
  have HR0 := Aside0.mk hr0
  have HC0 := Aside0.mk hc0
  clear hr0 hc0
  have HR1 := Aside0.mk hr1
  have HC1 := Aside0.mk hc1
  clear hr1 hc1
  have H : (if (l0.length : Int) = (l1.length : Int) then (laws_sameInts.l0 k l0 l1 0) else (some false)) = some r := h
  clear h
  by_cases c3 : (l0.length : Int) = (l1.length : Int)
  · rw [if_pos c3] at H
    have c3b0 : ((l0.length : Int) == (l1.length : Int)) = true := beq_iff_eq.mpr c3
    have c3b1 : ((l0.length : Int) != (l1.length : Int)) = false := bne_eq_false_iff_eq.mpr c3
    have c3b2 : (l0.length == l1.length) = true := by first | simpa using c3 | (simp at c3 ⊢; omega)
    clear c3
    have H' := Aside0.mk H
    clear H
    go_enter Try.func42, Try.ntmps42
    go_wp2
    repeat (go_quiet (fail); try go_wp2)
    go_loopg [5] k (fun kq v5 w' => ∃ (x5_1 : Int), v5 = .int .i64 x5_1 ∧ Aside0 (laws_sameInts.l0 kq l0 l1 x5_1 = some r) ∧ Aside0 (kq ≤ k) ∧ Drawn0 w w')
    case atStart => exact ⟨(0), (by first | rfl | (simp; done) | (simp [*]; done)), H', ⟨Nat.le_refl _⟩, by repeat (first | exact Drawn0.refl _ | apply Drawn0.step)⟩
    case round =>
      clear H'
      try clear c1
      try clear p2
      try clear c3
      try clear c3b0
      try clear c3b1
      try clear c3b2
      obtain ⟨x5_1, rfl, HA, HK1, ⟨m1, rfl⟩⟩ := hrel
      cases gk with
      | zero => exact absurd HA.out (by simp [laws_sameInts.l0])
      | succ k1 =>
        have H := HA.out
        clear HA
        simp only [laws_sameInts.l0] at H
        by_cases c4 : x5_1 < (l0.length : Int)
        · rw [if_pos c4] at H
          have c4b0 : decide (x5_1 < (l0.length : Int)) = true := decide_eq_true c4
          clear c4
          by_cases c5 : 0 ≤ x5_1
          · rw [if_pos c5] at H
            have c5b0 : decide (0 ≤ x5_1) = true := decide_eq_true c5
            clear c5
            by_cases c6 : x5_1 < (l1.length : Int)
            · rw [if_pos c6] at H
              have c6b0 : decide (x5_1 < (l1.length : Int)) = true := decide_eq_true c6
              clear c6
              by_cases c7 : (rd l0 x5_1) = (rd l1 x5_1)
              · rw [if_pos c7] at H
                have c7b0 : ((rd l0 x5_1) == (rd l1 x5_1)) = true := beq_iff_eq.mpr c7
                have c7b1 : ((rd l0 x5_1) != (rd l1 x5_1)) = false := bne_eq_false_iff_eq.mpr c7
                clear c7
                have H' := Aside0.mk H
                clear H
                have p179 : 0 ≤ (x5_1 : Int) := of_decide_eq_true (by first | (with_reducible assumption) | assumption)
                have q179 : x5_1 < (l0.length : Int) := of_decide_eq_true (by first | (with_reducible assumption) | assumption)
                obtain ⟨ad179, e179, hx179_0⟩ := Kd.at_int HR0.out x5_1 p179 q179
                cases e179
                replace p179 := eq_true p179
                replace q179 := eq_true q179
                have p180 : 0 ≤ (x5_1 : Int) := of_decide_eq_true (by first | (with_reducible assumption) | assumption)
                have q180 : x5_1 < (l1.length : Int) := of_decide_eq_true (by first | (with_reducible assumption) | assumption)
                obtain ⟨ad180, e180, hx180_0⟩ := Kd.at_int HR1.out x5_1 p180 q180
                cases e180
                replace p180 := eq_true p180
                replace q180 := eq_true q180
                go_wp2
                repeat (go_quiet (fail); try go_wp2)
                go_roundg k1
                case measure => have := HK1.out; omega
                case rel => exact ⟨(wrap64 (x5_1 + 1)), (by first | rfl | (simp; done) | (simp [*]; done)), H', ⟨by have := HK1.out; omega⟩, by repeat (first | exact Drawn0.refl _ | apply Drawn0.step)⟩
              · rw [if_neg c7] at H
                have c7b0 : ((rd l0 x5_1) == (rd l1 x5_1)) = false := beq_eq_false_iff_ne.mpr c7
                have c7b1 : ((rd l0 x5_1) != (rd l1 x5_1)) = true := bne_iff_ne.mpr c7
                obtain rfl := Option.some.inj H
                have p179 : 0 ≤ (x5_1 : Int) := of_decide_eq_true (by first | (with_reducible assumption) | assumption)
                have q179 : x5_1 < (l0.length : Int) := of_decide_eq_true (by first | (with_reducible assumption) | assumption)
                obtain ⟨ad179, e179, hx179_0⟩ := Kd.at_int HR0.out x5_1 p179 q179
                cases e179
                replace p179 := eq_true p179
                replace q179 := eq_true q179
                have p180 : 0 ≤ (x5_1 : Int) := of_decide_eq_true (by first | (with_reducible assumption) | assumption)
                have q180 : x5_1 < (l1.length : Int) := of_decide_eq_true (by first | (with_reducible assumption) | assumption)
                obtain ⟨ad180, e180, hx180_0⟩ := Kd.at_int HR1.out x5_1 p180 q180
                cases e180
                replace p180 := eq_true p180
                replace q180 := eq_true q180
                go_wp2
                repeat (go_quiet (fail); try go_wp2)
                go_ret
                exact ⟨by first | rfl | (simp; done) | (simp [*]; done), by repeat (first | exact Drawn0.refl _ | apply Drawn0.step)⟩
            · rw [if_neg c6] at H
              exact absurd H (by simp)
          · rw [if_neg c5] at H
            exact absurd H (by simp)
        · rw [if_neg c4] at H
          have c4b0 : decide (x5_1 < (l0.length : Int)) = false := decide_eq_false c4
          clear c4
          obtain rfl := Option.some.inj H
          go_wp2
          repeat (go_quiet (fail); try go_wp2)
          go_ret
          exact ⟨by first | rfl | (simp; done) | (simp [*]; done), by repeat (first | exact Drawn0.refl _ | apply Drawn0.step)⟩
  · rw [if_neg c3] at H
    have c3b0 : ((l0.length : Int) == (l1.length : Int)) = false := beq_eq_false_iff_ne.mpr c3
    have c3b1 : ((l0.length : Int) != (l1.length : Int)) = true := bne_iff_ne.mpr c3
    have c3b2 : (l0.length == l1.length) = false := by first | simpa using c3 | (simp at c3 ⊢; omega)
    obtain rfl := Option.some.inj H
    go_enter Try.func42, Try.ntmps42
    go_wp2
    repeat (go_quiet (fail); try go_wp2)
    go_ret
    exact ⟨by first | rfl | (simp; done) | (simp [*]; done), by repeat (first | exact Drawn0.refl _ | apply Drawn0.step)⟩

theorem sameInts_l0 (l : List Int) (hl : l.length ≤ 4611686018427387904) : ∀ (d i : Nat), i + d = l.length → Ev (fun k => laws_sameInts.l0 k l l i) true := by
  intro d
  induction d with
  | zero =>
    intro i hi
    exact Ev.step (fun k => by rw [laws_sameInts.l0]) (evNeg (by omega) (Ev.now _))
  | succ d ih =>
    intro i hi
    refine Ev.step (fun k => by rw [laws_sameInts.l0]) (evPos (by omega) (evPos (by omega) (evPos (by omega) (evPos rfl ?_))))
    rw [w64 (by omega) (by omega)]
    exact ih (i + 1) (by omega)
theorem sameInts_f (l : List Int) (hl : l.length ≤ 4611686018427387904) : Ev (fun k => laws_sameInts.f k l l) true := by
  unfold laws_sameInts.f
  exact evPos rfl (sameInts_l0 l hl l.length 0 (by omega))

/-- A state of type 116 at block g of W; what its slices lead to came in by w0. -/
def IsS116 (w0 W : World) (g : Nat) (f0 : List Int) (f1 : Int) (f2 : Int) : Prop := ∃ A0 c0, W.heap[g]? = some (.cells #[.slice A0 f0.length c0, .int .i64 f1, .int .i64 f2] 116 (0, 0)) ∧ w0.heap.size ≤ g ∧ Kd.C (Kd.int .u8) w0 A0 f0.length f0
theorem IsS116.grown {w0 W : World} {g : Nat} {f0 : List Int} {f1 : Int} {f2 : Int} {W1 : World} {row : Option Nat} (h : IsS116 w0 W g f0 f1 f2) (hw : W.grownBy W1 row) (hne : some g ≠ row) : IsS116 w0 W1 g f0 f1 f2 := by
  obtain ⟨A0, c0, hb, hg, hr0⟩ := h
  exact ⟨A0, c0, blk_grown hb hw hne, hg, hr0⟩
theorem IsS116.own_neN {w0 W : World} {g : Nat} {f0 : List Int} {f1 : Int} {f2 : Int} {α : Type} {d : Kd α} {e : Nat} {base : Nat} {ok : Nat → Prop} {v : Value} {xs : List α} (h : IsS116 w0 W g f0 f1 f2) (ho : Kd.N d e W base ok v xs) (ht : e ≠ 116) : some g ≠ v.ownBlock := by
  obtain ⟨A0, c0, hb, hg, hr0⟩ := h
  exact Kd.N_ne ho hb ht
theorem IsS116.fresh {w0 W : World} {g : Nat} {f0 : List Int} {f1 : Int} {f2 : Int} (h : IsS116 w0 W g f0 f1 f2) : ∀ k, W.heap.size ≤ k → k ≠ g := by
  obtain ⟨A0, c0, hb, hg, hr0⟩ := h
  exact Kd.freshB hb
theorem IsS116.kept {w0 W : World} {g : Nat} {f0 : List Int} {f1 : Int} {f2 : Int} {W1 : World} {S : Nat → Prop} (h : IsS116 w0 W g f0 f1 f2) (hk : Kept W W1 S) (hne : ¬ S g) : IsS116 w0 W1 g f0 f1 f2 := by
  obtain ⟨A0, c0, hb, hg, hr0⟩ := h
  exact ⟨A0, c0, blk_kept hb hk hne, hg, hr0⟩
theorem IsS116.below {w0 W : World} {g : Nat} {f0 : List Int} {f1 : Int} {f2 : Int} {W1 : World} (h : IsS116 w0 W g f0 f1 f2) (hw : Below W.heap.size W W1) : IsS116 w0 W1 g f0 f1 f2 := h.grown (grown_of_below hw none) (by simp)
theorem IsS116.alloc {w0 W : World} {g : Nat} {f0 : List Int} {f1 : Int} {f2 : Int} (h : IsS116 w0 W g f0 f1 f2) (o : Obj) : IsS116 w0 (W.alloc o) g f0 f1 f2 := h.below (below_alloc (Below.refl _ _) o)
theorem IsS116.drewN {w0 W : World} {g : Nat} {f0 : List Int} {f1 : Int} {f2 : Int} (h : IsS116 w0 W g f0 f1 f2) (m : Nat) : IsS116 w0 (W.drewN m) g f0 f1 f2 := h
theorem IsS116.drew {w0 W : World} {g : Nat} {f0 : List Int} {f1 : Int} {f2 : Int} (h : IsS116 w0 W g f0 f1 f2) : IsS116 w0 W.drew g f0 f1 f2 := h
theorem IsS116.at_ {w0 W : World} {g : Nat} {f0 : List Int} {f1 : Int} {f2 : Int} {w' : World} {m : Nat} (hq : W.drewN m = w') (h : IsS116 w0 W g f0 f1 f2) : IsS116 w0 w' g f0 f1 f2 := by subst hq; exact IsS116.drewN h m
theorem IsS116.apart {w0 W : World} {g : Nat} {f0 : List Int} {f1 : Int} {f2 : Int} {α : Type} {d : Kd α} {e : Nat} {base : Nat} {ok : Nat → Prop} {v : Value} {xs : List α} (h : IsS116 w0 W g f0 f1 f2) (ho : d.R e W base ok v xs) (ht : ∀ q, q ∈ e :: d.E → q ≠ 116) : d.R e W base (fun k => ok k ∧ k ≠ g) v xs := by
  obtain ⟨A0, c0, hb, hg, hr0⟩ := h
  exact Kd.R_types ho hb ht
theorem IsS116.own_ne {w0 W : World} {g : Nat} {f0 : List Int} {f1 : Int} {f2 : Int} {α : Type} {d : Kd α} {e : Nat} {base : Nat} {ok : Nat → Prop} {v : Value} {xs : List α} (h : IsS116 w0 W g f0 f1 f2) (ho : d.R e W base ok v xs) (ht : e ≠ 116) : some g ≠ v.ownBlock := by
  obtain ⟨A0, c0, hb, hg, hr0⟩ := h
  exact Kd.R_ne ho hb ht
theorem IsS116.apartQ {w0 W : World} {g : Nat} {f0 : List Int} {f1 : Int} {f2 : Int} {α : Type} {d : Kd α} {e : Nat} {base : Nat} {ok : Nat → Prop} {v : Value} {xs : List α} (h : IsS116 w0 W g f0 f1 f2) (ho : d.Q e W base ok v xs) (ht : ∀ q, q ∈ e :: d.E → q ≠ 116) : d.Q e W base (fun k => ok k ∧ k ≠ g) v xs := by
  obtain ⟨A0, c0, hb, hg, hr0⟩ := h
  exact Kd.Q_types ho hb ht
theorem IsS116.own_neQ {w0 W : World} {g : Nat} {f0 : List Int} {f1 : Int} {f2 : Int} {α : Type} {d : Kd α} {e : Nat} {base : Nat} {ok : Nat → Prop} {v : Value} {xs : List α} (h : IsS116 w0 W g f0 f1 f2) (ho : d.Q e W base ok v xs) (ht : e ≠ 116) : some g ≠ v.ownBlock := by
  obtain ⟨A0, c0, hb, hg, hr0⟩ := h
  exact Kd.Q_ne ho hb ht
theorem IsS116.apartS {w0 W : World} {g : Nat} {f0 : List Int} {f1 : Int} {f2 : Int} {α : Type} {d : Kd α} {e : Nat} {base : Nat} {ok : Nat → Prop} {v : Value} {xs : List α} (h : IsS116 w0 W g f0 f1 f2) (ho : d.S e W base ok v xs) (ht : ∀ q, q ∈ e :: d.E → q ≠ 116) : d.S e W base (fun k => ok k ∧ k ≠ g) v xs := by
  obtain ⟨A0, c0, hb, hg, hr0⟩ := h
  exact Kd.S_types ho hb ht
theorem IsS116.own_neS {w0 W : World} {g : Nat} {f0 : List Int} {f1 : Int} {f2 : Int} {α : Type} {d : Kd α} {e : Nat} {base : Nat} {ok : Nat → Prop} {v : Value} {xs : List α} (h : IsS116 w0 W g f0 f1 f2) (ho : d.S e W base ok v xs) (ht : e ≠ 116) : some g ≠ v.ownBlock := by
  obtain ⟨A0, c0, hb, hg, hr0⟩ := h
  exact Kd.S_ne ho hb ht
theorem IsS116.lt {w0 W : World} {g : Nat} {f0 : List Int} {f1 : Int} {f2 : Int} (h : IsS116 w0 W g f0 f1 f2) : g < W.heap.size := by
  obtain ⟨A0, c0, hb, hg, hr0⟩ := h
  exact blk_lt hb
theorem IsS116.ge {w0 W : World} {g : Nat} {f0 : List Int} {f1 : Int} {f2 : Int} (h : IsS116 w0 W g f0 f1 f2) : w0.heap.size ≤ g := by
  obtain ⟨A0, c0, hb, hg, hr0⟩ := h
  exact hg
theorem IsS116.ne_blk {w0 W : World} {g : Nat} {f0 : List Int} {f1 : Int} {f2 : Int} {a : Nat} {cs : Array Value} {t : TypeId} {fr : Nat × Nat} (h : IsS116 w0 W g f0 f1 f2) (hb2 : W.heap[a]? = some (.cells cs t fr)) (ht : t ≠ 116) : g ≠ a := by
  obtain ⟨A0, c0, hb, hg, hr0⟩ := h
  rintro rfl
  rw [hb] at hb2
  injection hb2 with hb2
  injection hb2 with _ ht2
  exact ht ht2.symm
theorem IsS116.far {w0 W : World} {g : Nat} {f0 : List Int} {f1 : Int} {f2 : Int} {p : Addr} (h : IsS116 w0 W g f0 f1 f2) (hne : g ≠ p.block) (u : Value) : IsS116 w0 (W.setCell p u) g f0 f1 f2 := by
  obtain ⟨A0, c0, hb, hg, hr0⟩ := h
  exact ⟨A0, c0, blk_far hb hne u, hg, hr0⟩
theorem cellS116_0 {W : World} {g : Nat} {A0 : Option Addr} {c0 : Nat} {f0 : List Int} {f1 : Int} {f2 : Int} (h : W.heap[g]? = some (.cells #[.slice A0 f0.length c0, .int .i64 f1, .int .i64 f2] 116 (0, 0))) : W.cell? ⟨g, 0, none⟩ = some (.slice A0 f0.length c0) := (blk_cell h 0).trans rfl
theorem cellS116_1 {W : World} {g : Nat} {A0 : Option Addr} {c0 : Nat} {f0 : List Int} {f1 : Int} {f2 : Int} (h : W.heap[g]? = some (.cells #[.slice A0 f0.length c0, .int .i64 f1, .int .i64 f2] 116 (0, 0))) : W.cell? ⟨g, 1, none⟩ = some (.int .i64 f1) := (blk_cell h 1).trans rfl
theorem IsS116.set_1 {w0 W : World} {g : Nat} {f0 : List Int} {f1 : Int} {f2 : Int} (h : IsS116 w0 W g f0 f1 f2) (x : Int) : IsS116 w0 (W.setCell ⟨g, 1, none⟩ (.int .i64 x)) g f0 x f2 := by
  obtain ⟨A0, c0, hb, hg, hr0⟩ := h
  exact ⟨A0, c0, by simpa using blk_set hb 1 (.int .i64 x), hg, hr0⟩
theorem cellS116_2 {W : World} {g : Nat} {A0 : Option Addr} {c0 : Nat} {f0 : List Int} {f1 : Int} {f2 : Int} (h : W.heap[g]? = some (.cells #[.slice A0 f0.length c0, .int .i64 f1, .int .i64 f2] 116 (0, 0))) : W.cell? ⟨g, 2, none⟩ = some (.int .i64 f2) := (blk_cell h 2).trans rfl
theorem IsS116.set_2 {w0 W : World} {g : Nat} {f0 : List Int} {f1 : Int} {f2 : Int} (h : IsS116 w0 W g f0 f1 f2) (x : Int) : IsS116 w0 (W.setCell ⟨g, 2, none⟩ (.int .i64 x)) g f0 f1 x := by
  obtain ⟨A0, c0, hb, hg, hr0⟩ := h
  exact ⟨A0, c0, by simpa using blk_set hb 2 (.int .i64 x), hg, hr0⟩
theorem IsS116.new (w0 W : World) (A0 : Option Addr) (c0 : Nat) (f0 : List Int) (f1 : Int) (f2 : Int) (hB : Below w0.heap.size w0 W) (hr0 : Kd.C (Kd.int .u8) w0 A0 f0.length f0) : IsS116 w0 (W.alloc (.cells #[.slice A0 f0.length c0, .int .i64 f1, .int .i64 f2] 116)) W.heap.size f0 f1 f2 := ⟨A0, c0, by simpa using heap_alloc_new W _, hB.size, hr0⟩

/-! ### spec_l01Open: function 78 -/
def spec_l01Open.f (l0 : List Int) : Option (List Int × Int × Int) := some (l0, 0, 13 + ((l0.length : Int) % 1000))
set_option maxHeartbeats 8000000 in
set_option maxRecDepth 100000 in
theorem spec_l01Open.calls (A0 : Option Addr) (c0 : Nat) (l0 : List Int) (r1 : List Int) (r2 : Int) (r3 : Int) (w0 w : World) (hB : Below w0.heap.size w0 w) (hr0 : Kd.C (Kd.int .u8) w0 A0 l0.length l0) (hc0 : l0.length ≤ c0) (h : spec_l01Open.f l0 = some (r1, r2, r3)) :
    Calls Try.prog 78 #[.slice A0 l0.length c0] w fun e w' => ∃ g_ : Nat, e = .returned (.pointer (some ⟨g_, 0, none⟩)) ∧ IsS116 w0 w' g_ r1 r2 r3 ∧ Below w0.heap.size w0 w' ∧ Below w.heap.size w w' := by
  have hu116 := Try.underlying116
  have HR0 := Aside0.mk hr0
  have HC0 := Aside0.mk hc0
  clear hr0 hc0
  have HBW := Aside0.mk (Below.refl w.heap.size w)
  have HW0 := Aside0.mk hB.size
  have HB := Aside0.mk hB
  clear hB
  have H : (some (l0, 0, 13 + ((l0.length : Int) % 1000))) = some (r1, r2, r3) := h
  clear h
  simp only [Option.some.injEq, Prod.mk.injEq] at H
  obtain ⟨rfl, rfl, rfl⟩ := H
  go_enter Try.func78, Try.ntmps78
  go_wp2_with (first | ((with_reducible refine gate_dst (N := 9) rfl ?_); refine box_event ?hg (N := 9) ?hd (cs := #[.slice A0 l0.length c0, .int .i64 0, .int .i64 (13 + ((l0.length : Int) % 1000))]) (t := 116) ?hr ?_; (case hd => rfl); (case hg => rfl); (case hr => first | (go_simp; done) | (go_simp; rfl)); intro gb181 hg w2 hbox hb; have n0_ := Aside0.mk (below_step HBW.out hb); have n1_ := Aside0.mk (below_step (by repeat (first | (with_reducible first | exact HB.out | apply below_alloc | apply pw_below_drewN | apply below_drew1) | exact HB.out)) hb); have n2_ := Aside0.mk (hbox); have n3_ := Aside0.mk ((by rw [hg]; exact (below_size (by repeat (first | (with_reducible first | exact HBW.out | apply below_alloc | apply pw_below_drewN | apply below_drew1) | exact HBW.out))) : w.heap.size ≤ gb181)); have n4_ := Aside0.mk ((Nat.le_trans HW0.out (by rw [hg]; exact (below_size (by repeat (first | (with_reducible first | exact HBW.out | apply below_alloc | apply pw_below_drewN | apply below_drew1) | exact HBW.out))) : w.heap.size ≤ gb181) : w0.heap.size ≤ gb181)); clear HBW; clear HB; have HBW := n0_; have HB := n1_; have BK181 := n2_; have GW181 := n3_; have GE181 := n4_; clear n0_ n1_ n2_ n3_ n4_; clear hb hbox hg))
  go_ret
  exact ⟨_, rfl, (show IsS116 w0 _ gb181 l0 0 (13 + ((l0.length : Int) % 1000)) from ⟨_, _, by (with_reducible repeat (first | refine blk_drewN ?_ _ | refine blk_drew ?_ | refine blk_alloc ?_ _)); exact BK181.out, GE181.out, HR0.out⟩), by repeat (first | (with_reducible first | exact HB.out | apply below_alloc | apply pw_below_drewN | apply below_drew1 | refine below_set ?_ GE181.out) | exact HB.out), by repeat (first | (with_reducible first | exact HBW.out | apply below_alloc | apply pw_below_drewN | apply below_drew1 | refine below_set ?_ GW181.out) | exact HBW.out)⟩

theorem open_f (code : List Int) (hc : CodeOk code) : EvP (fun _ => spec_l01Open.f code) (fun r => r.1 = code ∧ CurOk 0 r.2.1 r.2.2) := by
  unfold spec_l01Open.f
  exact evpNow rfl ⟨rfl, ⟨by simp, by simp, by simp only []; omega, by simp only []; omega⟩⟩

/-! ### spec_l01Cur_pick: function 81 -/
def spec_l01Cur_pick.f (s0_0 : List Int) (s0_1 : Int) (s0_2 : Int) (a1 : Int) : Option (Int × Int × Int) := if a1 < 2 then (some (0, s0_1, s0_2)) else (if s0_1 < (s0_0.length : Int) then (if 0 ≤ s0_1 then (if a1 > 256 then (if (wrap64 (s0_1 + 1)) < (s0_0.length : Int) then (if 0 ≤ (wrap64 (s0_1 + 1)) then (if a1 = 0 then (none) else (some (Int.tmod (wrap64 ((wrap64 (256 * (wrap64 (rd s0_0 s0_1)))) + (wrap64 (rd s0_0 (wrap64 (s0_1 + 1)))))) a1, wrap64 ((wrap64 (s0_1 + 1)) + 1), s0_2))) else (none)) else (if a1 = 0 then (none) else (some (Int.tmod (wrap64 (rd s0_0 s0_1)) a1, wrap64 (s0_1 + 1), s0_2)))) else (if a1 = 0 then (none) else (some (Int.tmod (wrap64 (rd s0_0 s0_1)) a1, wrap64 (s0_1 + 1), s0_2)))) else (none)) else (if (s0_0.length : Int) > 0 then (if (s0_0.length : Int) = 0 then (none) else (if 0 ≤ (Int.tmod s0_1 (s0_0.length : Int)) then (if (Int.tmod s0_1 (s0_0.length : Int)) < (s0_0.length : Int) then (if a1 = 0 then (none) else (some (Int.tmod (wrap64 ((wrap64 (Int.tdiv (Int.tmod (wrap64 ((wrap64 (s0_2 * 1103)) + 12345)) 65521) 3)) + (wrap64 (rd s0_0 (Int.tmod s0_1 (s0_0.length : Int)))))) a1, wrap64 (s0_1 + 1), Int.tmod (wrap64 ((wrap64 (s0_2 * 1103)) + 12345)) 65521))) else (none)) else (none))) else (if a1 = 0 then (none) else (some (Int.tmod (wrap64 (Int.tdiv (Int.tmod (wrap64 ((wrap64 (s0_2 * 1103)) + 12345)) 65521) 3)) a1, wrap64 (s0_1 + 1), Int.tmod (wrap64 ((wrap64 (s0_2 * 1103)) + 12345)) 65521)))))
set_option maxHeartbeats 8000000 in
set_option maxRecDepth 100000 in
theorem spec_l01Cur_pick.calls (g : Nat) (s0_0 : List Int) (s0_1 : Int) (s0_2 : Int) (a1 : Int) (r1 : Int) (r2 : Int) (r3 : Int) (w0 w : World) (hI : IsS116 w0 w g s0_0 s0_1 s0_2) (hB : Below w0.heap.size w0 w) (h : spec_l01Cur_pick.f s0_0 s0_1 s0_2 a1 = some (r1, r2, r3)) :
    Calls Try.prog 81 #[.pointer (some ⟨g, 0, none⟩), .int .i64 a1] w fun e w' => e = .returned (.int .i64 r1) ∧ IsS116 w0 w' g s0_0 r2 r3 ∧ Below w0.heap.size w0 w' ∧ KeepBut w w' g none := by
  have HI0 := Aside0.mk hI
  have HK := Aside0.mk (KeepBut.refl w g none)
  have HL := Aside0.mk hB.size
  clear hI
  have HW0 := Aside0.mk hB.size
  have HB := Aside0.mk hB
  clear hB
  have H : (if a1 < 2 then (some (0, s0_1, s0_2)) else (if s0_1 < (s0_0.length : Int) then (if 0 ≤ s0_1 then (if a1 > 256 then (if (wrap64 (s0_1 + 1)) < (s0_0.length : Int) then (if 0 ≤ (wrap64 (s0_1 + 1)) then (if a1 = 0 then (none) else (some (Int.tmod (wrap64 ((wrap64 (256 * (wrap64 (rd s0_0 s0_1)))) + (wrap64 (rd s0_0 (wrap64 (s0_1 + 1)))))) a1, wrap64 ((wrap64 (s0_1 + 1)) + 1), s0_2))) else (none)) else (if a1 = 0 then (none) else (some (Int.tmod (wrap64 (rd s0_0 s0_1)) a1, wrap64 (s0_1 + 1), s0_2)))) else (if a1 = 0 then (none) else (some (Int.tmod (wrap64 (rd s0_0 s0_1)) a1, wrap64 (s0_1 + 1), s0_2)))) else (none)) else (if (s0_0.length : Int) > 0 then (if (s0_0.length : Int) = 0 then (none) else (if 0 ≤ (Int.tmod s0_1 (s0_0.length : Int)) then (if (Int.tmod s0_1 (s0_0.length : Int)) < (s0_0.length : Int) then (if a1 = 0 then (none) else (some (Int.tmod (wrap64 ((wrap64 (Int.tdiv (Int.tmod (wrap64 ((wrap64 (s0_2 * 1103)) + 12345)) 65521) 3)) + (wrap64 (rd s0_0 (Int.tmod s0_1 (s0_0.length : Int)))))) a1, wrap64 (s0_1 + 1), Int.tmod (wrap64 ((wrap64 (s0_2 * 1103)) + 12345)) 65521))) else (none)) else (none))) else (if a1 = 0 then (none) else (some (Int.tmod (wrap64 (Int.tdiv (Int.tmod (wrap64 ((wrap64 (s0_2 * 1103)) + 12345)) 65521) 3)) a1, wrap64 (s0_1 + 1), Int.tmod (wrap64 ((wrap64 (s0_2 * 1103)) + 12345)) 65521)))))) = some (r1, r2, r3) := h
  clear h
  by_cases c3 : a1 < 2
  · rw [if_pos c3] at H
    have c3b0 : decide (a1 < 2) = true := decide_eq_true c3
    clear c3
    simp only [Option.some.injEq, Prod.mk.injEq] at H
    obtain ⟨rfl, rfl, rfl⟩ := H
    go_enter Try.func81, Try.ntmps81
    go_wp2
    repeat (go_quiet (fail); try go_wp2)
    go_ret
    exact ⟨by first | rfl | (simp [errW_none, errW_some] <;> rfl) | (simp [*, errW_none, errW_some] <;> rfl), by repeat (first | (with_reducible first | exact HI0.out | apply IsS116.alloc | apply IsS116.drewN | apply IsS116.drew | apply IsS116.set_1 | apply IsS116.set_2) | exact HI0.out), by repeat (first | (with_reducible first | exact HB.out | apply below_alloc | apply pw_below_drewN | apply below_drew1 | refine below_set ?_ (IsS116.ge HI0.out)) | exact HB.out), by repeat (first | (with_reducible first | exact HK.out | apply KeepBut.set_ | apply keep_drewN | apply keep_drew | apply keep_alloc) | exact HK.out)⟩
  · rw [if_neg c3] at H
    have c3b0 : decide (a1 < 2) = false := decide_eq_false c3
    clear c3
    by_cases c4 : s0_1 < (s0_0.length : Int)
    · rw [if_pos c4] at H
      have c4b0 : decide (s0_1 < (s0_0.length : Int)) = true := decide_eq_true c4
      clear c4
      by_cases c5 : 0 ≤ s0_1
      · rw [if_pos c5] at H
        have c5b0 : decide (0 ≤ s0_1) = true := decide_eq_true c5
        clear c5
        by_cases c6 : a1 > 256
        · rw [if_pos c6] at H
          have c6b0 : decide (256 < a1) = true := decide_eq_true c6
          clear c6
          by_cases c7 : (wrap64 (s0_1 + 1)) < (s0_0.length : Int)
          · rw [if_pos c7] at H
            have c7b0 : decide ((wrap64 (s0_1 + 1)) < (s0_0.length : Int)) = true := decide_eq_true c7
            clear c7
            obtain ⟨ji8, hji8⟩ : ∃ j_ : Int, (wrap64 (s0_1 + 1)) = j_ := ⟨_, rfl⟩
            replace H : (if 0 ≤ (ji8) then (if a1 = 0 then (none) else (some (Int.tmod (wrap64 ((wrap64 (256 * (wrap64 (rd s0_0 s0_1)))) + (wrap64 (rd s0_0 (ji8))))) a1, wrap64 ((ji8) + 1), s0_2))) else (none)) = some (r1, r2, r3) := by first | (rw [hji8] at H; exact H) | (simp only [hji8] at H ⊢; exact H)
            (try rw [hji8] at c7b0)
            have hji8w : (IntKind.i64.wrap (s0_1 + 1)) = ji8 := (i64_w _).trans hji8
            by_cases c9 : 0 ≤ (ji8)
            · rw [if_pos c9] at H
              have c9b0 : decide (0 ≤ (ji8)) = true := decide_eq_true c9
              clear c9
              by_cases c10 : a1 = 0
              · rw [if_pos c10] at H
                exact absurd H (by simp)
              · rw [if_neg c10] at H
                have c10b0 : (a1 == 0) = false := beq_eq_false_iff_ne.mpr c10
                have c10b1 : (a1 != 0) = true := bne_iff_ne.mpr c10
                simp only [Option.some.injEq, Prod.mk.injEq] at H
                obtain ⟨rfl, rfl, rfl⟩ := H
                obtain ⟨ASz11_0, cSz11_0, HGz11, hgz11, HSz11_0⟩ := HI0.out
                have hcz11_0 := cellS116_0 HGz11
                have hcz11_1 := cellS116_1 HGz11
                have hcz11_2 := cellS116_2 HGz11
                have hfz11_1 := blk_frozen HGz11 1
                have hfz11_2 := blk_frozen HGz11 2
                clear HGz11 hgz11
                have p182 : 0 ≤ (s0_1 : Int) := of_decide_eq_true (by first | (with_reducible assumption) | assumption)
                have q182 : s0_1 < (s0_0.length : Int) := of_decide_eq_true (by first | (with_reducible assumption) | assumption)
                obtain ⟨ad182, e182, hx182_0⟩ := Kd.at_int HSz11_0 s0_1 p182 q182
                cases e182
                replace hx182_0 := pw_cell_below HB.out hx182_0
                replace p182 := eq_true p182
                replace q182 := eq_true q182
                have p183 : 0 ≤ ((ji8) : Int) := of_decide_eq_true (by first | (with_reducible assumption) | assumption)
                have q183 : (ji8) < (s0_0.length : Int) := of_decide_eq_true (by first | (with_reducible assumption) | assumption)
                obtain ⟨ad183, e183, hx183_0⟩ := Kd.at_int HSz11_0 (ji8) p183 q183
                obtain rfl : ad182 = ad183 := (by injection e183)
                have hn183_0 : ad182.block ≠ g := Nat.ne_of_lt (Nat.lt_of_lt_of_le (by have := World.block_lt_of_cell? _ _ hx183_0; first | rwa [add_block] at this | exact this) (IsS116.ge HI0.out))
                replace hx183_0 := pw_cell_below HB.out hx183_0
                replace hx183_0 := (cell_far (p := ⟨g, 1, none⟩) (by first | (rw [add_block]; exact hn183_0) | (show (Addr.add _ _).block ≠ _; rw [add_block]; exact hn183_0) | exact hn183_0) (.int .i64 ji8)).trans hx183_0
                (try have hy183_0 := fun (n_ : Nat) => (show (((w.drewN n_).setCell ⟨g, 1, none⟩ (.int .i64 ji8))).cell? _ = some _ from hx183_0))
                clear hn183_0
                replace p183 := eq_true p183
                replace q183 := eq_true q183
                go_enter Try.func81, Try.ntmps81
                go_wp2
                repeat (go_quiet (fail); try go_wp2)
                go_ret
                exact ⟨by first | rfl | (simp [errW_none, errW_some] <;> rfl) | (simp only [← hji8]; first | rfl | (simp [errW_none, errW_some] <;> rfl)) | (simp [*, errW_none, errW_some] <;> rfl), by repeat (first | (with_reducible first | exact HI0.out | apply IsS116.alloc | apply IsS116.drewN | apply IsS116.drew | apply IsS116.set_1 | apply IsS116.set_2) | exact HI0.out), by repeat (first | (with_reducible first | exact HB.out | apply below_alloc | apply pw_below_drewN | apply below_drew1 | refine below_set ?_ (IsS116.ge HI0.out)) | exact HB.out), by repeat (first | (with_reducible first | exact HK.out | apply KeepBut.set_ | apply keep_drewN | apply keep_drew | apply keep_alloc) | exact HK.out)⟩
            · rw [if_neg c9] at H
              exact absurd H (by simp)
          · rw [if_neg c7] at H
            have c7b0 : decide ((wrap64 (s0_1 + 1)) < (s0_0.length : Int)) = false := decide_eq_false c7
            clear c7
            by_cases c12 : a1 = 0
            · rw [if_pos c12] at H
              exact absurd H (by simp)
            · rw [if_neg c12] at H
              have c12b0 : (a1 == 0) = false := beq_eq_false_iff_ne.mpr c12
              have c12b1 : (a1 != 0) = true := bne_iff_ne.mpr c12
              simp only [Option.some.injEq, Prod.mk.injEq] at H
              obtain ⟨rfl, rfl, rfl⟩ := H
              obtain ⟨ASz13_0, cSz13_0, HGz13, hgz13, HSz13_0⟩ := HI0.out
              have hcz13_0 := cellS116_0 HGz13
              have hcz13_1 := cellS116_1 HGz13
              have hcz13_2 := cellS116_2 HGz13
              have hfz13_1 := blk_frozen HGz13 1
              have hfz13_2 := blk_frozen HGz13 2
              clear HGz13 hgz13
              have p182 : 0 ≤ (s0_1 : Int) := of_decide_eq_true (by first | (with_reducible assumption) | assumption)
              have q182 : s0_1 < (s0_0.length : Int) := of_decide_eq_true (by first | (with_reducible assumption) | assumption)
              obtain ⟨ad182, e182, hx182_0⟩ := Kd.at_int HSz13_0 s0_1 p182 q182
              cases e182
              replace hx182_0 := pw_cell_below HB.out hx182_0
              replace p182 := eq_true p182
              replace q182 := eq_true q182
              go_enter Try.func81, Try.ntmps81
              go_wp2
              repeat (go_quiet (fail); try go_wp2)
              go_ret
              exact ⟨by first | rfl | (simp [errW_none, errW_some] <;> rfl) | (simp [*, errW_none, errW_some] <;> rfl), by repeat (first | (with_reducible first | exact HI0.out | apply IsS116.alloc | apply IsS116.drewN | apply IsS116.drew | apply IsS116.set_1 | apply IsS116.set_2) | exact HI0.out), by repeat (first | (with_reducible first | exact HB.out | apply below_alloc | apply pw_below_drewN | apply below_drew1 | refine below_set ?_ (IsS116.ge HI0.out)) | exact HB.out), by repeat (first | (with_reducible first | exact HK.out | apply KeepBut.set_ | apply keep_drewN | apply keep_drew | apply keep_alloc) | exact HK.out)⟩
        · rw [if_neg c6] at H
          have c6b0 : decide (256 < a1) = false := decide_eq_false c6
          clear c6
          by_cases c14 : a1 = 0
          · rw [if_pos c14] at H
            exact absurd H (by simp)
          · rw [if_neg c14] at H
            have c14b0 : (a1 == 0) = false := beq_eq_false_iff_ne.mpr c14
            have c14b1 : (a1 != 0) = true := bne_iff_ne.mpr c14
            simp only [Option.some.injEq, Prod.mk.injEq] at H
            obtain ⟨rfl, rfl, rfl⟩ := H
            obtain ⟨ASz15_0, cSz15_0, HGz15, hgz15, HSz15_0⟩ := HI0.out
            have hcz15_0 := cellS116_0 HGz15
            have hcz15_1 := cellS116_1 HGz15
            have hcz15_2 := cellS116_2 HGz15
            have hfz15_1 := blk_frozen HGz15 1
            have hfz15_2 := blk_frozen HGz15 2
            clear HGz15 hgz15
            have p182 : 0 ≤ (s0_1 : Int) := of_decide_eq_true (by first | (with_reducible assumption) | assumption)
            have q182 : s0_1 < (s0_0.length : Int) := of_decide_eq_true (by first | (with_reducible assumption) | assumption)
            obtain ⟨ad182, e182, hx182_0⟩ := Kd.at_int HSz15_0 s0_1 p182 q182
            cases e182
            replace hx182_0 := pw_cell_below HB.out hx182_0
            replace p182 := eq_true p182
            replace q182 := eq_true q182
            go_enter Try.func81, Try.ntmps81
            go_wp2
            repeat (go_quiet (fail); try go_wp2)
            go_ret
            exact ⟨by first | rfl | (simp [errW_none, errW_some] <;> rfl) | (simp [*, errW_none, errW_some] <;> rfl), by repeat (first | (with_reducible first | exact HI0.out | apply IsS116.alloc | apply IsS116.drewN | apply IsS116.drew | apply IsS116.set_1 | apply IsS116.set_2) | exact HI0.out), by repeat (first | (with_reducible first | exact HB.out | apply below_alloc | apply pw_below_drewN | apply below_drew1 | refine below_set ?_ (IsS116.ge HI0.out)) | exact HB.out), by repeat (first | (with_reducible first | exact HK.out | apply KeepBut.set_ | apply keep_drewN | apply keep_drew | apply keep_alloc) | exact HK.out)⟩
      · rw [if_neg c5] at H
        exact absurd H (by simp)
    · rw [if_neg c4] at H
      have c4b0 : decide (s0_1 < (s0_0.length : Int)) = false := decide_eq_false c4
      clear c4
      by_cases c16 : (s0_0.length : Int) > 0
      · rw [if_pos c16] at H
        have c16b0 : decide (0 < (s0_0.length : Int)) = true := decide_eq_true c16
        have c16b1 : decide (0 < s0_0.length) = true := decide_eq_true (by omega)
        clear c16
        by_cases c17 : (s0_0.length : Int) = 0
        · rw [if_pos c17] at H
          exact absurd H (by simp)
        · rw [if_neg c17] at H
          have c17b0 : ((s0_0.length : Int) == 0) = false := beq_eq_false_iff_ne.mpr c17
          have c17b1 : ((s0_0.length : Int) != 0) = true := bne_iff_ne.mpr c17
          have c17b2 : ¬ (s0_0 = []) := fun h_ => c17 (by rw [h_]; rfl)
          obtain ⟨ji18, hji18⟩ : ∃ j_ : Int, (Int.tmod s0_1 (s0_0.length : Int)) = j_ := ⟨_, rfl⟩
          replace H : (if 0 ≤ (ji18) then (if (ji18) < (s0_0.length : Int) then (if a1 = 0 then (none) else (some (Int.tmod (wrap64 ((wrap64 (Int.tdiv (Int.tmod (wrap64 ((wrap64 (s0_2 * 1103)) + 12345)) 65521) 3)) + (wrap64 (rd s0_0 (ji18))))) a1, wrap64 (s0_1 + 1), Int.tmod (wrap64 ((wrap64 (s0_2 * 1103)) + 12345)) 65521))) else (none)) else (none)) = some (r1, r2, r3) := by first | (rw [hji18] at H; exact H) | (simp only [hji18] at H ⊢; exact H)
          by_cases c19 : 0 ≤ (ji18)
          · rw [if_pos c19] at H
            have c19b0 : decide (0 ≤ (ji18)) = true := decide_eq_true c19
            clear c19
            by_cases c20 : (ji18) < (s0_0.length : Int)
            · rw [if_pos c20] at H
              have c20b0 : decide ((ji18) < (s0_0.length : Int)) = true := decide_eq_true c20
              clear c20
              by_cases c21 : a1 = 0
              · rw [if_pos c21] at H
                exact absurd H (by simp)
              · rw [if_neg c21] at H
                have c21b0 : (a1 == 0) = false := beq_eq_false_iff_ne.mpr c21
                have c21b1 : (a1 != 0) = true := bne_iff_ne.mpr c21
                simp only [Option.some.injEq, Prod.mk.injEq] at H
                obtain ⟨rfl, rfl, rfl⟩ := H
                obtain ⟨ASz22_0, cSz22_0, HGz22, hgz22, HSz22_0⟩ := HI0.out
                have hcz22_0 := cellS116_0 HGz22
                have hcz22_1 := cellS116_1 HGz22
                have hcz22_2 := cellS116_2 HGz22
                have hfz22_1 := blk_frozen HGz22 1
                have hfz22_2 := blk_frozen HGz22 2
                clear HGz22 hgz22
                have p184 : 0 ≤ ((ji18) : Int) := of_decide_eq_true (by first | (with_reducible assumption) | assumption)
                have q184 : (ji18) < (s0_0.length : Int) := of_decide_eq_true (by first | (with_reducible assumption) | assumption)
                obtain ⟨ad184, e184, hx184_0⟩ := Kd.at_int HSz22_0 (ji18) p184 q184
                cases e184
                have hn184_0 : ad184.block ≠ g := Nat.ne_of_lt (Nat.lt_of_lt_of_le (by have := World.block_lt_of_cell? _ _ hx184_0; first | rwa [add_block] at this | exact this) (IsS116.ge HI0.out))
                replace hx184_0 := pw_cell_below HB.out hx184_0
                replace hx184_0 := (cell_far (p := ⟨g, 2, none⟩) (by first | (rw [add_block]; exact hn184_0) | (show (Addr.add _ _).block ≠ _; rw [add_block]; exact hn184_0) | exact hn184_0) (.int .i64 (Int.tmod (wrap64 ((wrap64 (s0_2 * 1103)) + 12345)) 65521))).trans hx184_0
                (try have hy184_0 := fun (n_ : Nat) => (show (((w.drewN n_).setCell ⟨g, 2, none⟩ (.int .i64 (Int.tmod (wrap64 ((wrap64 (s0_2 * 1103)) + 12345)) 65521)))).cell? _ = some _ from hx184_0))
                clear hn184_0
                replace p184 := eq_true p184
                replace q184 := eq_true q184
                go_enter Try.func81, Try.ntmps81
                go_wp2
                repeat (go_quiet (fail); try go_wp2)
                go_ret
                exact ⟨by first | rfl | (simp [errW_none, errW_some] <;> rfl) | (simp only [← hji18]; first | rfl | (simp [errW_none, errW_some] <;> rfl)) | (simp [*, errW_none, errW_some] <;> rfl), by repeat (first | (with_reducible first | exact HI0.out | apply IsS116.alloc | apply IsS116.drewN | apply IsS116.drew | apply IsS116.set_1 | apply IsS116.set_2) | exact HI0.out), by repeat (first | (with_reducible first | exact HB.out | apply below_alloc | apply pw_below_drewN | apply below_drew1 | refine below_set ?_ (IsS116.ge HI0.out)) | exact HB.out), by repeat (first | (with_reducible first | exact HK.out | apply KeepBut.set_ | apply keep_drewN | apply keep_drew | apply keep_alloc) | exact HK.out)⟩
            · rw [if_neg c20] at H
              exact absurd H (by simp)
          · rw [if_neg c19] at H
            exact absurd H (by simp)
      · rw [if_neg c16] at H
        have c16b0 : decide (0 < (s0_0.length : Int)) = false := decide_eq_false c16
        have c16b1 : decide (0 < s0_0.length) = false := decide_eq_false (by omega)
        clear c16
        by_cases c23 : a1 = 0
        · rw [if_pos c23] at H
          exact absurd H (by simp)
        · rw [if_neg c23] at H
          have c23b0 : (a1 == 0) = false := beq_eq_false_iff_ne.mpr c23
          have c23b1 : (a1 != 0) = true := bne_iff_ne.mpr c23
          simp only [Option.some.injEq, Prod.mk.injEq] at H
          obtain ⟨rfl, rfl, rfl⟩ := H
          obtain ⟨ASz24_0, cSz24_0, HGz24, hgz24, HSz24_0⟩ := HI0.out
          have hcz24_0 := cellS116_0 HGz24
          have hcz24_1 := cellS116_1 HGz24
          have hcz24_2 := cellS116_2 HGz24
          have hfz24_1 := blk_frozen HGz24 1
          have hfz24_2 := blk_frozen HGz24 2
          clear HGz24 hgz24
          go_enter Try.func81, Try.ntmps81
          go_wp2
          repeat (go_quiet (fail); try go_wp2)
          go_ret
          exact ⟨by first | rfl | (simp [errW_none, errW_some] <;> rfl) | (simp [*, errW_none, errW_some] <;> rfl), by repeat (first | (with_reducible first | exact HI0.out | apply IsS116.alloc | apply IsS116.drewN | apply IsS116.drew | apply IsS116.set_1 | apply IsS116.set_2) | exact HI0.out), by repeat (first | (with_reducible first | exact HB.out | apply below_alloc | apply pw_below_drewN | apply below_drew1 | refine below_set ?_ (IsS116.ge HI0.out)) | exact HB.out), by repeat (first | (with_reducible first | exact HK.out | apply KeepBut.set_ | apply keep_drewN | apply keep_drew | apply keep_alloc) | exact HK.out)⟩

theorem pick_p {code : List Int} {at_ seed n : Int} {m : Nat} (hc : CodeOk code) (h : CurOk m at_ seed) (hm : m ≤ 1152921504606846976) :
    ∃ x a s, spec_l01Cur_pick.f code at_ seed n = some (x, a, s) ∧ (0 ≤ x ∧ (x < n ∨ n < 2 ∧ x = 0)) ∧ CurOk (m + 2) a s := by
  obtain ⟨a0, a1, s0, s1⟩ := h
  have r := fun i => rd_range0 (l := code) hc.2 (by omega) (by omega) i
  have hl := hc.1
  unfold spec_l01Cur_pick.f
  by_cases h2 : n < 2
  · rw [if_pos h2]
    exact ⟨_, _, _, rfl, ⟨by omega, .inr ⟨h2, rfl⟩⟩, ⟨a0, by omega, s0, s1⟩⟩
  · rw [if_neg h2]
    have fin : ∀ (X a s : Int), 0 ≤ X → CurOk (m + 2) a s → ∃ x a' s', (if n = 0 then (none : Option (Int × Int × Int)) else (some (Int.tmod X n, a, s))) = some (x, a', s') ∧ (0 ≤ x ∧ (x < n ∨ n < 2 ∧ x = 0)) ∧ CurOk (m + 2) a' s' := fun X a s hX hk => by
      rw [if_neg (by omega)]
      have := tmod_range hX (show 0 < n by omega)
      exact ⟨_, _, _, rfl, ⟨this.1, .inl this.2⟩, hk⟩
    by_cases ha : at_ < (code.length : Int)
    · rw [if_pos ha, if_pos a0]
      have r0 := r at_
      rw [w64 (x := rd code at_) (by omega) (by omega), w64 (x := at_ + 1) (by omega) (by omega)]
      have one : ∃ x a' s', (if n = 0 then (none : Option (Int × Int × Int)) else (some (Int.tmod (rd code at_) n, at_ + 1, seed))) = some (x, a', s') ∧ (0 ≤ x ∧ (x < n ∨ n < 2 ∧ x = 0)) ∧ CurOk (m + 2) a' s' := fin _ _ _ r0.1 ⟨by omega, by omega, s0, s1⟩
      by_cases h3 : n > 256
      · rw [if_pos h3]
        by_cases h4 : at_ + 1 < (code.length : Int)
        · rw [if_pos h4, if_pos (by omega)]
          have r1 := r (at_ + 1)
          rw [w64 (x := rd code (at_ + 1)) (by omega) (by omega), w64 (x := 256 * rd code at_) (by omega) (by omega), w64 (x := 256 * rd code at_ + rd code (at_ + 1)) (by omega) (by omega), w64 (x := at_ + 1 + 1) (by omega) (by omega)]
          exact fin _ _ _ (by omega) ⟨by omega, by omega, s0, s1⟩
        · rw [if_neg h4]
          exact one
      · rw [if_neg h3]
        exact one
    · rw [if_neg ha]
      have t0 := tmod_range (a := seed * 1103 + 12345) (b := 65521) (by omega) (by omega)
      rw [w64 (x := seed * 1103) (by omega) (by omega), w64 (x := seed * 1103 + 12345) (by omega) (by omega), w64 (x := at_ + 1) (by omega) (by omega)]
      generalize Int.tmod (seed * 1103 + 12345) 65521 = S at t0 ⊢
      rw [tdiv3 t0.1, w64 (x := S / 3) (by omega) (by omega)]
      by_cases h5 : (code.length : Int) > 0
      · have t1 := tmod_range (a := at_) a0 h5
        rw [if_pos h5, if_neg (by omega), if_pos t1.1, if_pos t1.2]
        have r2 := r (Int.tmod at_ (code.length : Int))
        rw [w64 (x := rd code (Int.tmod at_ (code.length : Int))) (by omega) (by omega), w64 (x := S / 3 + rd code (Int.tmod at_ (code.length : Int))) (by omega) (by omega)]
        exact fin _ _ _ (by omega) ⟨by omega, by omega, by omega, by omega⟩
      · rw [if_neg h5]
        exact fin _ _ _ (by omega) ⟨by omega, by omega, by omega, by omega⟩
/-- A drawn number. -/
theorem pickP {code : List Int} {at_ seed n : Int} (m : Nat) (hc : CodeOk code) (h : CurOk m at_ seed) (hm : m ≤ 1152921504606846976) :
    EvP (fun _ => spec_l01Cur_pick.f code at_ seed n) (fun r => (0 ≤ r.1 ∧ (r.1 < n ∨ n < 2 ∧ r.1 = 0)) ∧ CurOk (m + 2) r.2.1 r.2.2) := by
  obtain ⟨x, a, s, e, hx, hk⟩ := pick_p (n := n) hc h hm
  exact evpNow e ⟨hx, hk⟩

/-! ### spec_l01Cur_size: function 107 -/
def spec_l01Cur_size.f (s0_0 : List Int) (s0_1 : Int) (s0_2 : Int) (a1 : Int) : Option (Int × Int × Int) := if (wrap64 (1 + (wrap64 ((s0_0.length : Int) / 10)))) > a1 then ((spec_l01Cur_pick.f s0_0 s0_1 s0_2 (wrap64 (a1 + 1))).bind fun bt185 => (some (bt185.1, bt185.2.1, bt185.2.2))) else ((spec_l01Cur_pick.f s0_0 s0_1 s0_2 (wrap64 ((wrap64 (1 + (wrap64 ((s0_0.length : Int) / 10)))) + 1))).bind fun bt188 => (some (bt188.1, bt188.2.1, bt188.2.2)))
set_option maxHeartbeats 8000000 in
set_option maxRecDepth 100000 in
theorem spec_l01Cur_size.calls (g : Nat) (s0_0 : List Int) (s0_1 : Int) (s0_2 : Int) (a1 : Int) (r1 : Int) (r2 : Int) (r3 : Int) (w0 w : World) (hI : IsS116 w0 w g s0_0 s0_1 s0_2) (hB : Below w0.heap.size w0 w) (h : spec_l01Cur_size.f s0_0 s0_1 s0_2 a1 = some (r1, r2, r3)) :
    Calls Try.prog 107 #[.pointer (some ⟨g, 0, none⟩), .int .i64 a1] w fun e w' => e = .returned (.int .i64 r1) ∧ IsS116 w0 w' g s0_0 r2 r3 ∧ Below w0.heap.size w0 w' ∧ KeepBut w w' g none := by
  have HI0 := Aside0.mk hI
  have HK := Aside0.mk (KeepBut.refl w g none)
  have HL := Aside0.mk hB.size
  clear hI
  have HW0 := Aside0.mk hB.size
  have HB := Aside0.mk hB
  clear hB
  have H : (if (wrap64 (1 + (wrap64 ((s0_0.length : Int) / 10)))) > a1 then ((spec_l01Cur_pick.f s0_0 s0_1 s0_2 (wrap64 (a1 + 1))).bind fun bt185 => (some (bt185.1, bt185.2.1, bt185.2.2))) else ((spec_l01Cur_pick.f s0_0 s0_1 s0_2 (wrap64 ((wrap64 (1 + (wrap64 ((s0_0.length : Int) / 10)))) + 1))).bind fun bt188 => (some (bt188.1, bt188.2.1, bt188.2.2)))) = some (r1, r2, r3) := h
  clear h
  by_cases c3 : (wrap64 (1 + (wrap64 ((s0_0.length : Int) / 10)))) > a1
  · rw [if_pos c3] at H
    have c3b0 : decide (a1 < (wrap64 (1 + (wrap64 ((s0_0.length : Int) / 10))))) = true := decide_eq_true c3
    clear c3
    replace H := Option.bind_eq_some_iff.mp H
    obtain ⟨⟨t185, t186, t187⟩, A40, H⟩ := H
    replace H : (some (t185, t186, t187)) = some (r1, r2, r3) := H
    have A4 := Aside0.mk A40
    clear A40
    simp only [Option.some.injEq, Prod.mk.injEq] at H
    obtain ⟨rfl, rfl, rfl⟩ := H
    obtain ⟨ASz5_0, cSz5_0, HGz5, hgz5, HSz5_0⟩ := HI0.out
    have hcz5_0 := cellS116_0 HGz5
    have hcz5_1 := cellS116_1 HGz5
    have hcz5_2 := cellS116_2 HGz5
    have hfz5_1 := blk_frozen HGz5 1
    have hfz5_2 := blk_frozen HGz5 2
    clear HGz5 hgz5
    go_enter Try.func107, Try.ntmps107
    go_wp2_with (first | ((with_reducible refine gate_callee (f := 81) rfl ?_); refine goesL_ (some 20) rfl rfl Try.func81 (by kernel_rfl) rfl #[.pointer (some ⟨g, 0, none⟩), .int .i64 (wrap64 (a1 + 1))] rfl (by (try simp only [List.map_toArray, List.map_cons, List.map_nil]); first | done | rfl | (simp only [List.length_drop, List.length_take]; rfl)) ?_; (with_reducible refine (spec_l01Cur_pick.calls g s0_0 s0_1 s0_2 (wrap64 (a1 + 1)) t185 t186 t187 w0 _ ?side1 ?side2 A4.out).mono ?_); (case side1 => repeat (first | (with_reducible first | exact HI0.out | apply IsS116.alloc | apply IsS116.drewN | apply IsS116.drew | apply IsS116.set_1 | apply IsS116.set_2) | exact HI0.out)); (case side2 => repeat (first | (with_reducible first | exact HB.out | apply below_alloc | apply pw_below_drewN | apply below_drew1 | refine below_set ?_ (IsS116.ge HI0.out)) | exact HB.out)); rintro e w6 ⟨rfl, hi, hb, hk⟩; refine ⟨_, rfl, ?_⟩; have n0_ := Aside0.mk (KeepBut.trans (by repeat (first | (with_reducible first | exact HK.out | apply KeepBut.set_ | apply keep_drewN | apply keep_drew | apply keep_alloc) | exact HK.out)) hk (.inl rfl)); have n1_ := Aside0.mk (hb); have n2_ := Aside0.mk (hi); clear HK; clear HB; clear HI0; have HK := n0_; have HB := n1_; have HI0 := n2_; clear n0_ n1_ n2_; (try clear hb); (try clear hb2); (try clear hk); (try clear hi)))
    go_ret
    exact ⟨by first | rfl | (simp [errW_none, errW_some] <;> rfl) | (simp [*, errW_none, errW_some] <;> rfl), by repeat (first | (with_reducible first | exact HI0.out | apply IsS116.alloc | apply IsS116.drewN | apply IsS116.drew | apply IsS116.set_1 | apply IsS116.set_2) | exact HI0.out), by repeat (first | (with_reducible first | exact HB.out | apply below_alloc | apply pw_below_drewN | apply below_drew1 | refine below_set ?_ (IsS116.ge HI0.out)) | exact HB.out), by repeat (first | (with_reducible first | exact HK.out | apply KeepBut.set_ | apply keep_drewN | apply keep_drew | apply keep_alloc) | exact HK.out)⟩
  · rw [if_neg c3] at H
    have c3b0 : decide (a1 < (wrap64 (1 + (wrap64 ((s0_0.length : Int) / 10))))) = false := decide_eq_false c3
    clear c3
    replace H := Option.bind_eq_some_iff.mp H
    obtain ⟨⟨t188, t189, t190⟩, A70, H⟩ := H
    replace H : (some (t188, t189, t190)) = some (r1, r2, r3) := H
    have A7 := Aside0.mk A70
    clear A70
    simp only [Option.some.injEq, Prod.mk.injEq] at H
    obtain ⟨rfl, rfl, rfl⟩ := H
    obtain ⟨ASz8_0, cSz8_0, HGz8, hgz8, HSz8_0⟩ := HI0.out
    have hcz8_0 := cellS116_0 HGz8
    have hcz8_1 := cellS116_1 HGz8
    have hcz8_2 := cellS116_2 HGz8
    have hfz8_1 := blk_frozen HGz8 1
    have hfz8_2 := blk_frozen HGz8 2
    clear HGz8 hgz8
    go_enter Try.func107, Try.ntmps107
    go_wp2_with (first | ((with_reducible refine gate_callee (f := 81) rfl ?_); refine goesL_ (some 20) rfl rfl Try.func81 (by kernel_rfl) rfl #[.pointer (some ⟨g, 0, none⟩), .int .i64 (wrap64 ((wrap64 (1 + (wrap64 ((s0_0.length : Int) / 10)))) + 1))] rfl (by (try simp only [List.map_toArray, List.map_cons, List.map_nil]); first | done | rfl | (simp only [List.length_drop, List.length_take]; rfl)) ?_; (with_reducible refine (spec_l01Cur_pick.calls g s0_0 s0_1 s0_2 (wrap64 ((wrap64 (1 + (wrap64 ((s0_0.length : Int) / 10)))) + 1)) t188 t189 t190 w0 _ ?side1 ?side2 A7.out).mono ?_); (case side1 => repeat (first | (with_reducible first | exact HI0.out | apply IsS116.alloc | apply IsS116.drewN | apply IsS116.drew | apply IsS116.set_1 | apply IsS116.set_2) | exact HI0.out)); (case side2 => repeat (first | (with_reducible first | exact HB.out | apply below_alloc | apply pw_below_drewN | apply below_drew1 | refine below_set ?_ (IsS116.ge HI0.out)) | exact HB.out)); rintro e w9 ⟨rfl, hi, hb, hk⟩; refine ⟨_, rfl, ?_⟩; have n0_ := Aside0.mk (KeepBut.trans (by repeat (first | (with_reducible first | exact HK.out | apply KeepBut.set_ | apply keep_drewN | apply keep_drew | apply keep_alloc) | exact HK.out)) hk (.inl rfl)); have n1_ := Aside0.mk (hb); have n2_ := Aside0.mk (hi); clear HK; clear HB; clear HI0; have HK := n0_; have HB := n1_; have HI0 := n2_; clear n0_ n1_ n2_; (try clear hb); (try clear hb2); (try clear hk); (try clear hi)))
    go_ret
    exact ⟨by first | rfl | (simp [errW_none, errW_some] <;> rfl) | (simp [*, errW_none, errW_some] <;> rfl), by repeat (first | (with_reducible first | exact HI0.out | apply IsS116.alloc | apply IsS116.drewN | apply IsS116.drew | apply IsS116.set_1 | apply IsS116.set_2) | exact HI0.out), by repeat (first | (with_reducible first | exact HB.out | apply below_alloc | apply pw_below_drewN | apply below_drew1 | refine below_set ?_ (IsS116.ge HI0.out)) | exact HB.out), by repeat (first | (with_reducible first | exact HK.out | apply KeepBut.set_ | apply keep_drewN | apply keep_drew | apply keep_alloc) | exact HK.out)⟩

theorem sizeP30 {code : List Int} {at_ seed : Int} (m : Nat) (hc : CodeOk code) (h : CurOk m at_ seed) (hm : m ≤ 1152921504606846976) :
    EvP (fun _ => spec_l01Cur_size.f code at_ seed 30) (fun r => (0 ≤ r.1 ∧ r.1 ≤ 30) ∧ CurOk (m + 2) r.2.1 r.2.2) := by
  have hl := hc.1
  unfold spec_l01Cur_size.f
  have e1 : wrap64 ((code.length : Int) / 10) = (code.length : Int) / 10 := w64 (by omega) (by omega)
  rw [e1]
  have e2 : wrap64 (1 + (code.length : Int) / 10) = 1 + (code.length : Int) / 10 := w64 (by omega) (by omega)
  rw [e2]
  refine evpIf (fun hs => ?_) (fun hs => ?_)
  · refine evpBind (pickP m hc h hm) (fun b hb => evpNow rfl ⟨?_, hb.2⟩)
    have h1 := hb.1
    rw [w64 (show -9223372036854775808 ≤ (30 : Int) + 1 by omega) (by omega)] at h1
    simp only []
    omega
  · refine evpBind (pickP m hc h hm) (fun b hb => evpNow rfl ⟨?_, hb.2⟩)
    have h1 := hb.1
    rw [w64 (show -9223372036854775808 ≤ 1 + (code.length : Int) / 10 + 1 by omega) (by omega)] at h1
    simp only []
    omega

/-! ### spec_l10DrawNum: function 108 -/
def spec_l10DrawNum.f (s0_0 : List Int) (s0_1 : Int) (s0_2 : Int) : Option (Int × Int × Int) := (spec_l01Cur_pick.f s0_0 s0_1 s0_2 4).bind fun bt191 => (if bt191.1 = 0 then (some (0, bt191.2.1, bt191.2.2)) else (if bt191.1 = 1 then ((spec_l01Cur_pick.f s0_0 bt191.2.1 bt191.2.2 9).bind fun bt194 => (some (wrap64 (bt194.1 - 4), bt194.2.1, bt194.2.2))) else (if bt191.1 = 2 then ((spec_l01Cur_pick.f s0_0 bt191.2.1 bt191.2.2 2001).bind fun bt197 => (some (wrap64 (bt197.1 - 1000), bt197.2.1, bt197.2.2))) else ((some (([32767, (-32767), 16384, (-16383), 1, (-1)] : List Int) : List Int)).bind fun y200 => ((spec_l01Cur_pick.f s0_0 bt191.2.1 bt191.2.2 6).bind fun bt203 => (if 0 ≤ bt203.1 then (if bt203.1 < (y200.length : Int) then (some (rd y200 bt203.1, bt203.2.1, bt203.2.2)) else (none)) else (none)))))))
set_option maxHeartbeats 8000000 in
set_option maxRecDepth 100000 in
theorem spec_l10DrawNum.calls (g : Nat) (s0_0 : List Int) (s0_1 : Int) (s0_2 : Int) (r1 : Int) (r2 : Int) (r3 : Int) (w0 w : World) (hI : IsS116 w0 w g s0_0 s0_1 s0_2) (hB : Below w0.heap.size w0 w) (h : spec_l10DrawNum.f s0_0 s0_1 s0_2 = some (r1, r2, r3)) :
    Calls Try.prog 108 #[.pointer (some ⟨g, 0, none⟩)] w fun e w' => e = .returned (.int .i64 r1) ∧ IsS116 w0 w' g s0_0 r2 r3 ∧ Below w0.heap.size w0 w' ∧ KeepBut w w' g none := by
  have HI0 := Aside0.mk hI
  have HK := Aside0.mk (KeepBut.refl w g none)
  have HL := Aside0.mk hB.size
  clear hI
  have HW0 := Aside0.mk hB.size
  have HB := Aside0.mk hB
  clear hB
  have H : ((spec_l01Cur_pick.f s0_0 s0_1 s0_2 4).bind fun bt191 => (if bt191.1 = 0 then (some (0, bt191.2.1, bt191.2.2)) else (if bt191.1 = 1 then ((spec_l01Cur_pick.f s0_0 bt191.2.1 bt191.2.2 9).bind fun bt194 => (some (wrap64 (bt194.1 - 4), bt194.2.1, bt194.2.2))) else (if bt191.1 = 2 then ((spec_l01Cur_pick.f s0_0 bt191.2.1 bt191.2.2 2001).bind fun bt197 => (some (wrap64 (bt197.1 - 1000), bt197.2.1, bt197.2.2))) else ((some (([32767, (-32767), 16384, (-16383), 1, (-1)] : List Int) : List Int)).bind fun y200 => ((spec_l01Cur_pick.f s0_0 bt191.2.1 bt191.2.2 6).bind fun bt203 => (if 0 ≤ bt203.1 then (if bt203.1 < (y200.length : Int) then (some (rd y200 bt203.1, bt203.2.1, bt203.2.2)) else (none)) else (none)))))))) = some (r1, r2, r3) := h
  clear h
  replace H := Option.bind_eq_some_iff.mp H
  obtain ⟨⟨t191, t192, t193⟩, A20, H⟩ := H
  replace H : (if t191 = 0 then (some (0, t192, t193)) else (if t191 = 1 then ((spec_l01Cur_pick.f s0_0 t192 t193 9).bind fun bt194 => (some (wrap64 (bt194.1 - 4), bt194.2.1, bt194.2.2))) else (if t191 = 2 then ((spec_l01Cur_pick.f s0_0 t192 t193 2001).bind fun bt197 => (some (wrap64 (bt197.1 - 1000), bt197.2.1, bt197.2.2))) else ((some (([32767, (-32767), 16384, (-16383), 1, (-1)] : List Int) : List Int)).bind fun y200 => ((spec_l01Cur_pick.f s0_0 t192 t193 6).bind fun bt203 => (if 0 ≤ bt203.1 then (if bt203.1 < (y200.length : Int) then (some (rd y200 bt203.1, bt203.2.1, bt203.2.2)) else (none)) else (none))))))) = some (r1, r2, r3) := H
  have A2 := Aside0.mk A20
  clear A20
  by_cases c3 : t191 = 0
  · rw [if_pos c3] at H
    have c3b0 : (t191 == 0) = true := beq_iff_eq.mpr c3
    have c3b1 : (t191 != 0) = false := bne_eq_false_iff_eq.mpr c3
    clear c3
    simp only [Option.some.injEq, Prod.mk.injEq] at H
    obtain ⟨rfl, rfl, rfl⟩ := H
    go_enter Try.func108, Try.ntmps108
    go_wp2_with (first | ((with_reducible refine gate_callee (f := 81) rfl ?_); refine goesL_ (some 4) rfl rfl Try.func81 (by kernel_rfl) rfl #[.pointer (some ⟨g, 0, none⟩), .int .i64 4] rfl (by (try simp only [List.map_toArray, List.map_cons, List.map_nil]); first | done | rfl | (simp only [List.length_drop, List.length_take]; rfl)) ?_; (with_reducible refine (spec_l01Cur_pick.calls g s0_0 s0_1 s0_2 4 t191 t192 t193 w0 _ ?side1 ?side2 A2.out).mono ?_); (case side1 => repeat (first | (with_reducible first | exact HI0.out | apply IsS116.alloc | apply IsS116.drewN | apply IsS116.drew | apply IsS116.set_1 | apply IsS116.set_2) | exact HI0.out)); (case side2 => repeat (first | (with_reducible first | exact HB.out | apply below_alloc | apply pw_below_drewN | apply below_drew1 | refine below_set ?_ (IsS116.ge HI0.out)) | exact HB.out)); rintro e w4 ⟨rfl, hi, hb, hk⟩; refine ⟨_, rfl, ?_⟩; have n0_ := Aside0.mk (KeepBut.trans (by repeat (first | (with_reducible first | exact HK.out | apply KeepBut.set_ | apply keep_drewN | apply keep_drew | apply keep_alloc) | exact HK.out)) hk (.inl rfl)); have n1_ := Aside0.mk (hb); have n2_ := Aside0.mk (hi); clear HK; clear HB; clear HI0; have HK := n0_; have HB := n1_; have HI0 := n2_; clear n0_ n1_ n2_; (try clear hb); (try clear hb2); (try clear hk); (try clear hi)))
    go_ret
    exact ⟨by first | rfl | (simp [errW_none, errW_some] <;> rfl) | (simp [*, errW_none, errW_some] <;> rfl), by repeat (first | (with_reducible first | exact HI0.out | apply IsS116.alloc | apply IsS116.drewN | apply IsS116.drew | apply IsS116.set_1 | apply IsS116.set_2) | exact HI0.out), by repeat (first | (with_reducible first | exact HB.out | apply below_alloc | apply pw_below_drewN | apply below_drew1 | refine below_set ?_ (IsS116.ge HI0.out)) | exact HB.out), by repeat (first | (with_reducible first | exact HK.out | apply KeepBut.set_ | apply keep_drewN | apply keep_drew | apply keep_alloc) | exact HK.out)⟩
  · rw [if_neg c3] at H
    have c3b0 : (t191 == 0) = false := beq_eq_false_iff_ne.mpr c3
    have c3b1 : (t191 != 0) = true := bne_iff_ne.mpr c3
    by_cases c5 : t191 = 1
    · rw [if_pos c5] at H
      have c5b0 : (t191 == 1) = true := beq_iff_eq.mpr c5
      have c5b1 : (t191 != 1) = false := bne_eq_false_iff_eq.mpr c5
      clear c5
      replace H := Option.bind_eq_some_iff.mp H
      obtain ⟨⟨t194, t195, t196⟩, A60, H⟩ := H
      replace H : (some (wrap64 (t194 - 4), t195, t196)) = some (r1, r2, r3) := H
      have A6 := Aside0.mk A60
      clear A60
      simp only [Option.some.injEq, Prod.mk.injEq] at H
      obtain ⟨rfl, rfl, rfl⟩ := H
      go_enter Try.func108, Try.ntmps108
      go_wp2_with (first | ((with_reducible refine gate_callee (f := 81) rfl ?_); refine goesL_ (some 4) rfl rfl Try.func81 (by kernel_rfl) rfl #[.pointer (some ⟨g, 0, none⟩), .int .i64 4] rfl (by (try simp only [List.map_toArray, List.map_cons, List.map_nil]); first | done | rfl | (simp only [List.length_drop, List.length_take]; rfl)) ?_; (with_reducible refine (spec_l01Cur_pick.calls g s0_0 s0_1 s0_2 4 t191 t192 t193 w0 _ ?side1 ?side2 A2.out).mono ?_); (case side1 => repeat (first | (with_reducible first | exact HI0.out | apply IsS116.alloc | apply IsS116.drewN | apply IsS116.drew | apply IsS116.set_1 | apply IsS116.set_2) | exact HI0.out)); (case side2 => repeat (first | (with_reducible first | exact HB.out | apply below_alloc | apply pw_below_drewN | apply below_drew1 | refine below_set ?_ (IsS116.ge HI0.out)) | exact HB.out)); rintro e w7 ⟨rfl, hi, hb, hk⟩; refine ⟨_, rfl, ?_⟩; have n0_ := Aside0.mk (KeepBut.trans (by repeat (first | (with_reducible first | exact HK.out | apply KeepBut.set_ | apply keep_drewN | apply keep_drew | apply keep_alloc) | exact HK.out)) hk (.inl rfl)); have n1_ := Aside0.mk (hb); have n2_ := Aside0.mk (hi); clear HK; clear HB; clear HI0; have HK := n0_; have HB := n1_; have HI0 := n2_; clear n0_ n1_ n2_; (try clear hb); (try clear hb2); (try clear hk); (try clear hi)) | ((with_reducible refine gate_callee (f := 81) rfl ?_); refine goesL_ (some 10) rfl rfl Try.func81 (by kernel_rfl) rfl #[.pointer (some ⟨g, 0, none⟩), .int .i64 9] rfl (by (try simp only [List.map_toArray, List.map_cons, List.map_nil]); first | done | rfl | (simp only [List.length_drop, List.length_take]; rfl)) ?_; (with_reducible refine (spec_l01Cur_pick.calls g s0_0 t192 t193 9 t194 t195 t196 w0 _ ?side1 ?side2 A6.out).mono ?_); (case side1 => repeat (first | (with_reducible first | exact HI0.out | apply IsS116.alloc | apply IsS116.drewN | apply IsS116.drew | apply IsS116.set_1 | apply IsS116.set_2) | exact HI0.out)); (case side2 => repeat (first | (with_reducible first | exact HB.out | apply below_alloc | apply pw_below_drewN | apply below_drew1 | refine below_set ?_ (IsS116.ge HI0.out)) | exact HB.out)); rintro e w8 ⟨rfl, hi, hb, hk⟩; refine ⟨_, rfl, ?_⟩; have n0_ := Aside0.mk (KeepBut.trans (by repeat (first | (with_reducible first | exact HK.out | apply KeepBut.set_ | apply keep_drewN | apply keep_drew | apply keep_alloc) | exact HK.out)) hk (.inl rfl)); have n1_ := Aside0.mk (hb); have n2_ := Aside0.mk (hi); clear HK; clear HB; clear HI0; have HK := n0_; have HB := n1_; have HI0 := n2_; clear n0_ n1_ n2_; (try clear hb); (try clear hb2); (try clear hk); (try clear hi)))
      go_ret
      exact ⟨by first | rfl | (simp [errW_none, errW_some] <;> rfl) | (simp [*, errW_none, errW_some] <;> rfl), by repeat (first | (with_reducible first | exact HI0.out | apply IsS116.alloc | apply IsS116.drewN | apply IsS116.drew | apply IsS116.set_1 | apply IsS116.set_2) | exact HI0.out), by repeat (first | (with_reducible first | exact HB.out | apply below_alloc | apply pw_below_drewN | apply below_drew1 | refine below_set ?_ (IsS116.ge HI0.out)) | exact HB.out), by repeat (first | (with_reducible first | exact HK.out | apply KeepBut.set_ | apply keep_drewN | apply keep_drew | apply keep_alloc) | exact HK.out)⟩
    · rw [if_neg c5] at H
      have c5b0 : (t191 == 1) = false := beq_eq_false_iff_ne.mpr c5
      have c5b1 : (t191 != 1) = true := bne_iff_ne.mpr c5
      by_cases c9 : t191 = 2
      · rw [if_pos c9] at H
        have c9b0 : (t191 == 2) = true := beq_iff_eq.mpr c9
        have c9b1 : (t191 != 2) = false := bne_eq_false_iff_eq.mpr c9
        clear c9
        replace H := Option.bind_eq_some_iff.mp H
        obtain ⟨⟨t197, t198, t199⟩, A100, H⟩ := H
        replace H : (some (wrap64 (t197 - 1000), t198, t199)) = some (r1, r2, r3) := H
        have A10 := Aside0.mk A100
        clear A100
        simp only [Option.some.injEq, Prod.mk.injEq] at H
        obtain ⟨rfl, rfl, rfl⟩ := H
        go_enter Try.func108, Try.ntmps108
        go_wp2_with (first | ((with_reducible refine gate_callee (f := 81) rfl ?_); refine goesL_ (some 4) rfl rfl Try.func81 (by kernel_rfl) rfl #[.pointer (some ⟨g, 0, none⟩), .int .i64 4] rfl (by (try simp only [List.map_toArray, List.map_cons, List.map_nil]); first | done | rfl | (simp only [List.length_drop, List.length_take]; rfl)) ?_; (with_reducible refine (spec_l01Cur_pick.calls g s0_0 s0_1 s0_2 4 t191 t192 t193 w0 _ ?side1 ?side2 A2.out).mono ?_); (case side1 => repeat (first | (with_reducible first | exact HI0.out | apply IsS116.alloc | apply IsS116.drewN | apply IsS116.drew | apply IsS116.set_1 | apply IsS116.set_2) | exact HI0.out)); (case side2 => repeat (first | (with_reducible first | exact HB.out | apply below_alloc | apply pw_below_drewN | apply below_drew1 | refine below_set ?_ (IsS116.ge HI0.out)) | exact HB.out)); rintro e w11 ⟨rfl, hi, hb, hk⟩; refine ⟨_, rfl, ?_⟩; have n0_ := Aside0.mk (KeepBut.trans (by repeat (first | (with_reducible first | exact HK.out | apply KeepBut.set_ | apply keep_drewN | apply keep_drew | apply keep_alloc) | exact HK.out)) hk (.inl rfl)); have n1_ := Aside0.mk (hb); have n2_ := Aside0.mk (hi); clear HK; clear HB; clear HI0; have HK := n0_; have HB := n1_; have HI0 := n2_; clear n0_ n1_ n2_; (try clear hb); (try clear hb2); (try clear hk); (try clear hi)) | ((with_reducible refine gate_callee (f := 81) rfl ?_); refine goesL_ (some 15) rfl rfl Try.func81 (by kernel_rfl) rfl #[.pointer (some ⟨g, 0, none⟩), .int .i64 2001] rfl (by (try simp only [List.map_toArray, List.map_cons, List.map_nil]); first | done | rfl | (simp only [List.length_drop, List.length_take]; rfl)) ?_; (with_reducible refine (spec_l01Cur_pick.calls g s0_0 t192 t193 2001 t197 t198 t199 w0 _ ?side1 ?side2 A10.out).mono ?_); (case side1 => repeat (first | (with_reducible first | exact HI0.out | apply IsS116.alloc | apply IsS116.drewN | apply IsS116.drew | apply IsS116.set_1 | apply IsS116.set_2) | exact HI0.out)); (case side2 => repeat (first | (with_reducible first | exact HB.out | apply below_alloc | apply pw_below_drewN | apply below_drew1 | refine below_set ?_ (IsS116.ge HI0.out)) | exact HB.out)); rintro e w12 ⟨rfl, hi, hb, hk⟩; refine ⟨_, rfl, ?_⟩; have n0_ := Aside0.mk (KeepBut.trans (by repeat (first | (with_reducible first | exact HK.out | apply KeepBut.set_ | apply keep_drewN | apply keep_drew | apply keep_alloc) | exact HK.out)) hk (.inl rfl)); have n1_ := Aside0.mk (hb); have n2_ := Aside0.mk (hi); clear HK; clear HB; clear HI0; have HK := n0_; have HB := n1_; have HI0 := n2_; clear n0_ n1_ n2_; (try clear hb); (try clear hb2); (try clear hk); (try clear hi)))
        go_ret
        exact ⟨by first | rfl | (simp [errW_none, errW_some] <;> rfl) | (simp [*, errW_none, errW_some] <;> rfl), by repeat (first | (with_reducible first | exact HI0.out | apply IsS116.alloc | apply IsS116.drewN | apply IsS116.drew | apply IsS116.set_1 | apply IsS116.set_2) | exact HI0.out), by repeat (first | (with_reducible first | exact HB.out | apply below_alloc | apply pw_below_drewN | apply below_drew1 | refine below_set ?_ (IsS116.ge HI0.out)) | exact HB.out), by repeat (first | (with_reducible first | exact HK.out | apply KeepBut.set_ | apply keep_drewN | apply keep_drew | apply keep_alloc) | exact HK.out)⟩
      · rw [if_neg c9] at H
        have c9b0 : (t191 == 2) = false := beq_eq_false_iff_ne.mpr c9
        have c9b1 : (t191 != 2) = true := bne_iff_ne.mpr c9
        obtain ⟨y200, hy200⟩ : ∃ y_ : List Int, y_ = (([32767, (-32767), 16384, (-16383), 1, (-1)] : List Int)) := ⟨_, rfl⟩
        replace H : ((spec_l01Cur_pick.f s0_0 t192 t193 6).bind fun bt203 => (if 0 ≤ bt203.1 then (if bt203.1 < (y200.length : Int) then (some (rd y200 bt203.1, bt203.2.1, bt203.2.2)) else (none)) else (none))) = some (r1, r2, r3) := by first | (rw [hy200]; with_reducible exact H) | (have H2_ := (Option.bind_some _ _).symm.trans H; rw [hy200]; with_reducible exact H2_) | (have H2_ := (Option.bind_some _ _).symm.trans H; with_reducible exact H2_) | with_reducible exact H | (rw [hy200]; exact H) | exact H
        have Ny200 := Aside0.mk hy200
        clear hy200
        replace H := Option.bind_eq_some_iff.mp H
        obtain ⟨⟨t203, t204, t205⟩, A130, H⟩ := H
        replace H : (if 0 ≤ t203 then (if t203 < (y200.length : Int) then (some (rd y200 t203, t204, t205)) else (none)) else (none)) = some (r1, r2, r3) := H
        have A13 := Aside0.mk A130
        clear A130
        by_cases c14 : 0 ≤ t203
        · rw [if_pos c14] at H
          have c14b0 : decide (0 ≤ t203) = true := decide_eq_true c14
          clear c14
          by_cases c15 : t203 < (y200.length : Int)
          · rw [if_pos c15] at H
            have c15b0 : decide (t203 < (y200.length : Int)) = true := decide_eq_true c15
            clear c15
            simp only [Option.some.injEq, Prod.mk.injEq] at H
            obtain ⟨rfl, rfl, rfl⟩ := H
            go_enter Try.func108, Try.ntmps108
            go_wp2_with (first | ((with_reducible refine gate_callee (f := 81) rfl ?_); refine goesL_ (some 4) rfl rfl Try.func81 (by kernel_rfl) rfl #[.pointer (some ⟨g, 0, none⟩), .int .i64 4] rfl (by (try simp only [List.map_toArray, List.map_cons, List.map_nil]); first | done | rfl | (simp only [List.length_drop, List.length_take]; rfl)) ?_; (with_reducible refine (spec_l01Cur_pick.calls g s0_0 s0_1 s0_2 4 t191 t192 t193 w0 _ ?side1 ?side2 A2.out).mono ?_); (case side1 => repeat (first | (with_reducible first | exact HI0.out | apply IsS116.alloc | apply IsS116.drewN | apply IsS116.drew | apply IsS116.set_1 | apply IsS116.set_2) | exact HI0.out)); (case side2 => repeat (first | (with_reducible first | exact HB.out | apply below_alloc | apply pw_below_drewN | apply below_drew1 | refine below_set ?_ (IsS116.ge HI0.out)) | exact HB.out)); rintro e w16 ⟨rfl, hi, hb, hk⟩; refine ⟨_, rfl, ?_⟩; have n0_ := Aside0.mk (KeepBut.trans (by repeat (first | (with_reducible first | exact HK.out | apply KeepBut.set_ | apply keep_drewN | apply keep_drew | apply keep_alloc) | exact HK.out)) hk (.inl rfl)); have n1_ := Aside0.mk (hb); have n2_ := Aside0.mk (hi); clear HK; clear HB; clear HI0; have HK := n0_; have HB := n1_; have HI0 := n2_; clear n0_ n1_ n2_; (try clear hb); (try clear hb2); (try clear hk); (try clear hi)) | ((with_reducible refine gate_dst (N := 17) rfl ?_); refine Kd.R_lit (Kd.int .i64) _ 3 ?hg (N := 17) ?hd (xs := ([32767, (-32767), 16384, (-16383), 1, (-1)] : List Int)) (inner := [.int .i64 32767, .int .i64 (-32767), .int .i64 16384, .int .i64 (-16383), .int .i64 1, .int .i64 (-1)]) (ok := fun _ => True) (okp := fun _ => True) ?hr ?hp (fun _ hk => hk) trivial (Below.refl _ _) (Nat.le_refl _) (by simp) ?_; (case hd => rfl); (case hg => rfl); (case hr => first | (go_simp; done) | (go_simp; rfl)); (case hp => exact (Reps.one (show Kd.M (Kd.int .i64) _ _ _ 32767 [.int .i64 32767] from rfl) (Reps.one (show Kd.M (Kd.int .i64) _ _ _ (-32767) [.int .i64 (-32767)] from rfl) (Reps.one (show Kd.M (Kd.int .i64) _ _ _ 16384 [.int .i64 16384] from rfl) (Reps.one (show Kd.M (Kd.int .i64) _ _ _ (-16383) [.int .i64 (-16383)] from rfl) (Reps.one (show Kd.M (Kd.int .i64) _ _ _ 1 [.int .i64 1] from rfl) (Reps.one (show Kd.M (Kd.int .i64) _ _ _ (-1) [.int .i64 (-1)] from rfl) (Reps.none _ _)))))))); intro v201 w17 ho18 hb hg_ hnew_; clear hg_ hnew_; (first | rw [← Ny200.out] at ho18 | (simp only [Int.reduceToNat] at ho18; rw [← Ny200.out] at ho18)); have n0_ := Aside0.mk (Kd.R_lower ho18 (keep_size (w := w) (g := g) (row := none) (by repeat (first | (with_reducible first | exact HK.out | apply KeepBut.set_ | apply keep_drewN | apply keep_drew | apply keep_alloc) | exact HK.out)))); have n1_ := Aside0.mk (IsS116.below (by repeat (first | (with_reducible first | exact HI0.out | apply IsS116.alloc | apply IsS116.drewN | apply IsS116.drew | apply IsS116.set_1 | apply IsS116.set_2) | exact HI0.out)) hb); have n2_ := Aside0.mk (KeepBut.trans (by repeat (first | (with_reducible first | exact HK.out | apply KeepBut.set_ | apply keep_drewN | apply keep_drew | apply keep_alloc) | exact HK.out)) (KeepBut.of_below hb g none) (.inl rfl)); have n3_ := Aside0.mk (below_step (by repeat (first | (with_reducible first | exact HB.out | apply below_alloc | apply pw_below_drewN | apply below_drew1 | refine below_set ?_ (IsS116.ge HI0.out)) | exact HB.out)) hb); clear HI0; clear HK; clear HB; have HO202 := n0_; have HI0 := n1_; have HK := n2_; have HB := n3_; clear n0_ n1_ n2_ n3_; clear hb ho18) | ((with_reducible refine gate_callee (f := 81) rfl ?_); refine goesL_ (some 19) rfl rfl Try.func81 (by kernel_rfl) rfl #[.pointer (some ⟨g, 0, none⟩), .int .i64 6] rfl (by (try simp only [List.map_toArray, List.map_cons, List.map_nil]); first | done | rfl | (simp only [List.length_drop, List.length_take]; rfl)) ?_; (with_reducible refine (spec_l01Cur_pick.calls g s0_0 t192 t193 6 t203 t204 t205 w0 _ ?side1 ?side2 A13.out).mono ?_); (case side1 => repeat (first | (with_reducible first | exact HI0.out | apply IsS116.alloc | apply IsS116.drewN | apply IsS116.drew | apply IsS116.set_1 | apply IsS116.set_2) | exact HI0.out)); (case side2 => repeat (first | (with_reducible first | exact HB.out | apply below_alloc | apply pw_below_drewN | apply below_drew1 | refine below_set ?_ (IsS116.ge HI0.out)) | exact HB.out)); rintro e w19 ⟨rfl, hi, hb, hk⟩; refine ⟨_, rfl, ?_⟩; have n0_ := Aside0.mk (Kd.R_mono (Kd.R_keep (IsS116.apart (show IsS116 w0 _ g s0_0 t192 t193 from by repeat (first | (with_reducible first | exact HI0.out | apply IsS116.alloc | apply IsS116.drewN | apply IsS116.drew | apply IsS116.set_1 | apply IsS116.set_2) | exact HI0.out)) (by (with_reducible repeat (first | apply Kd.R_alloc | apply Kd.R_drewN | apply Kd.R_drew)); exact HO202.out) (by decide)) hk (fun _ h => h.2)) (fun _ h => h.1)); have n1_ := Aside0.mk (KeepBut.trans (by repeat (first | (with_reducible first | exact HK.out | apply KeepBut.set_ | apply keep_drewN | apply keep_drew | apply keep_alloc) | exact HK.out)) hk (.inl rfl)); have n2_ := Aside0.mk (hb); have n3_ := Aside0.mk (hi); clear HO202; clear HK; clear HB; clear HI0; have HO202 := n0_; have HK := n1_; have HB := n2_; have HI0 := n3_; clear n0_ n1_ n2_ n3_; (try clear hb); (try clear hb2); (try clear hk); (try clear hi); obtain ⟨Ao20, co20, eo20⟩ := Kd.R_slice HO202.out; subst eo20; have p206 : 0 ≤ (t203 : Int) := of_decide_eq_true (by first | (with_reducible assumption) | assumption); have q206 : t203 < (y200.length : Int) := of_decide_eq_true (by first | (with_reducible assumption) | assumption); obtain ⟨ad206, e206, hx206_0⟩ := Kd.at_int (Kd.R_reads' HO202.out).2.2 t203 p206 q206; cases e206; replace p206 := eq_true p206; replace q206 := eq_true q206))
            go_ret
            exact ⟨by first | rfl | (simp [errW_none, errW_some] <;> rfl) | (simp [*, errW_none, errW_some] <;> rfl), by repeat (first | (with_reducible first | exact HI0.out | apply IsS116.alloc | apply IsS116.drewN | apply IsS116.drew | apply IsS116.set_1 | apply IsS116.set_2) | exact HI0.out), by repeat (first | (with_reducible first | exact HB.out | apply below_alloc | apply pw_below_drewN | apply below_drew1 | refine below_set ?_ (IsS116.ge HI0.out)) | exact HB.out), by repeat (first | (with_reducible first | exact HK.out | apply KeepBut.set_ | apply keep_drewN | apply keep_drew | apply keep_alloc) | exact HK.out)⟩
          · rw [if_neg c15] at H
            exact absurd H (by simp)
        · rw [if_neg c14] at H
          exact absurd H (by simp)

theorem drawNumP {code : List Int} {at_ seed : Int} (m : Nat) (hc : CodeOk code) (h : CurOk m at_ seed) (hm : m ≤ 1000000000000) :
    EvP (fun _ => spec_l10DrawNum.f code at_ seed) (fun r => CurOk (m + 4) r.2.1 r.2.2) := by
  unfold spec_l10DrawNum.f
  refine evpBind (pickP m hc h (by omega)) (fun b hb => evpIf (fun _ => evpNow rfl (hb.2.more (by omega))) (fun _ => evpIf (fun _ => ?_) (fun _ => evpIf (fun _ => ?_) (fun _ => ?_))))
  · exact evpBind (pickP _ hc hb.2 (by omega)) (fun x hx => evpNow rfl hx.2)
  · exact evpBind (pickP _ hc hb.2 (by omega)) (fun x hx => evpNow rfl hx.2)
  · refine evpBind (evpNow rfl rfl) (fun y hy => ?_)
    subst hy
    exact evpBind (pickP _ hc hb.2 (by omega)) (fun x hx => evpPos hx.1.1 (evpPos (by simp; omega) (evpNow rfl hx.2)))

end Go.Proofs.Ytdeheflbigggbaa.CM
