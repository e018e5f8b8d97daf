/- Functions that a law of this seat reaches: written by a program of this session (wip/xprint.py), and by hand. -/
import Derived.Test.YtgbfioolildbeaaCTx0
import Derived.Test.YtgbfioolildbeaaCTx1
import Derived.Test.YtgbfioolildbeaaCTx3
namespace Go.Proofs.Ytgbfioolildbeaa.CT
open Go.RowKit Go.Proofs.Ytgbfioolildbeaa.B Go.Proofs.YtgbfioolildbeaaW.PrintWords Go.Proofs.YtgbfioolildbeaaW.PrintLast Go.Proofs.YtgbfioolildbeaaW.PrintMore
attribute [local go_sem] max2_int min2_int max_two min_two max_three min_three max_four min_four   -- for this text's walks alone
set_option linter.unusedVariables false
set_option linter.unusedSimpArgs false

/-! ### impl_LensOk: function 21 -/
mutual
def impl_LensOk.j0 : Nat → List Int → Bool → Option (Bool)
  | 0, _, _ => none
  | k + 1, x0, x13 => if x13 = true then (some false) else (impl_LensOk.l0 k 0 x0 (x0.length : Int) 0)
def impl_LensOk.l0 : Nat → Int → List Int → Int → Int → Option (Bool)
  | 0, _, _, _, _ => none
  | k + 1, x3, x14, x15, x16 => if x16 < x15 then (if 0 ≤ x16 then (if x16 < (x14.length : Int) then (if (rd x14 x16) > 0 then (if 0 ≤ (wrap64 (16 - (rd x14 x16))) then (impl_LensOk.l0 k (wrap64 (x3 + (shl .i64 1 (wrap64 (16 - (rd x14 x16)))))) x14 x15 (wrap64 (x16 + 1))) else (none)) else (impl_LensOk.l0 k x3 x14 x15 (wrap64 (x16 + 1)))) else (none)) else (none)) else ((impl_within.f x3 1 65536).bind fun t177 => (some t177))
end
def impl_LensOk.f (k : Nat) (l0 : List Int) : Option (Bool) := if (l0.length : Int) > 256 then (impl_LensOk.j0 k l0 true) else ((impl_allWithin.f k l0 0 16).bind fun t175 => (impl_LensOk.j0 k l0 (!t175)))
theorem impl_LensOk.mono_l : ∀ k, (∀ y0 y1, LeO (impl_LensOk.j0 k y0 y1) (impl_LensOk.j0 (k + 1) y0 y1)) ∧ (∀ y0 y1 y2 y3, LeO (impl_LensOk.l0 k y0 y1 y2 y3) (impl_LensOk.l0 (k + 1) y0 y1 y2 y3))
  | 0 => ⟨fun _ _ r h => by simp [impl_LensOk.j0] at h, fun _ _ _ _ r h => by simp [impl_LensOk.l0] at h⟩
  | k + 1 => by
    obtain ⟨ih0, ih1⟩ := impl_LensOk.mono_l k
    refine ⟨?_, ?_⟩
    · intro y0 y1
      unfold impl_LensOk.j0
      repeat' first
      | (with_reducible exact ih0 _ _)
      | (with_reducible exact ih1 _ _ _ _)
      | (with_reducible exact impl_allWithin.mono _ _ _ _)
      | (with_reducible exact LeO.refl _)
      | (with_reducible exact LeO.none _)
      | (with_reducible refine LeO.ite ?_ ?_)
      | (with_reducible refine LeO.bind ?_ (fun _ => ?_))
      | exact ih0 _ _
      | exact ih1 _ _ _ _
      | exact impl_allWithin.mono _ _ _ _
      | exact LeO.none _
      | refine LeO.ite ?_ ?_
      | refine LeO.bind ?_ (fun _ => ?_)
    · intro y0 y1 y2 y3
      unfold impl_LensOk.l0
      repeat' first
      | (with_reducible exact ih0 _ _)
      | (with_reducible exact ih1 _ _ _ _)
      | (with_reducible exact impl_allWithin.mono _ _ _ _)
      | (with_reducible exact LeO.refl _)
      | (with_reducible exact LeO.none _)
      | (with_reducible refine LeO.ite ?_ ?_)
      | (with_reducible refine LeO.bind ?_ (fun _ => ?_))
      | exact ih0 _ _
      | exact ih1 _ _ _ _
      | exact impl_allWithin.mono _ _ _ _
      | exact LeO.none _
      | refine LeO.ite ?_ ?_
      | refine LeO.bind ?_ (fun _ => ?_)
theorem impl_LensOk.mono : ∀ a0 k, LeO (impl_LensOk.f k a0) (impl_LensOk.f (k + 1) a0) := by
  intro a0 k
  obtain ⟨ih0, ih1⟩ := impl_LensOk.mono_l k
  unfold impl_LensOk.f
  repeat' first
      | (with_reducible exact ih0 _ _)
      | (with_reducible exact ih1 _ _ _ _)
      | (with_reducible exact impl_allWithin.mono _ _ _ _)
      | (with_reducible exact LeO.refl _)
      | (with_reducible exact LeO.none _)
      | (with_reducible refine LeO.ite ?_ ?_)
      | (with_reducible refine LeO.bind ?_ (fun _ => ?_))
      | exact ih0 _ _
      | exact ih1 _ _ _ _
      | exact impl_allWithin.mono _ _ _ _
      | exact LeO.none _
      | refine LeO.ite ?_ ?_
      | refine LeO.bind ?_ (fun _ => ?_)
set_option maxHeartbeats 8000000 in
set_option maxRecDepth 100000 in
theorem impl_LensOk.calls (k : Nat) (A0 : Option Addr) (c0 : Nat) (l0 : List Int) (r : Bool) (w : World) (hr0 : Kd.C (Kd.int .i64) w A0 l0.length l0) (hc0 : l0.length ≤ c0) (h : impl_LensOk.f k l0 = some r) :
    Calls Try.prog 21 #[.slice A0 l0.length c0] w fun e w' => e = .returned (.bool r) ∧ Drawn0 w w' := by
  have HR0 := Aside0.mk hr0
  have HC0 := Aside0.mk hc0
  clear hr0 hc0
  have H : (if (l0.length : Int) > 256 then (impl_LensOk.j0 k l0 true) else ((impl_allWithin.f k l0 0 16).bind fun t175 => (impl_LensOk.j0 k l0 (!t175)))) = some r := h
  clear h
  have HC2 := Aside0.mk H
  clear H
  go_enter Try.func21, Try.ntmps21
  go_upto_region 1 with (fail)
  go_cut [13] (fun v13 wc => ∃ (kq : Nat) (x13_1 : Bool), v13 = .bool x13_1 ∧ Aside0 (impl_LensOk.j0 kq l0 x13_1 = some r) ∧ Aside0 (kq ≤ k) ∧ Drawn0 w wc)
  case first =>
    have H := HC2.out
    clear HC2
    by_cases c3 : (l0.length : Int) > 256
    · rw [if_pos c3] at H
      have c3b0 : decide (256 < (l0.length : Int)) = true := decide_eq_true c3
      have c3b1 : decide (256 < l0.length) = true := decide_eq_true (by omega)
      clear c3
      (first | rw [c3b0] | (simp only [i64_w, i32_w]; rw [c3b0]) | skip)
      have H' := Aside0.mk H
      clear H
      go_wp2
      go_meet
      case rel => exact ⟨_, (true), (by first | rfl | (simp; done) | (simp [*]; done)), H', ⟨by first | omega | exact Nat.le_refl _⟩, by repeat (first | exact Drawn0.refl _ | apply Drawn0.step)⟩
    · rw [if_neg c3] at H
      have c3b0 : decide (256 < (l0.length : Int)) = false := decide_eq_false c3
      have c3b1 : decide (256 < l0.length) = false := decide_eq_false (by omega)
      clear c3
      (first | rw [c3b0] | (simp only [i64_w, i32_w]; rw [c3b0]) | skip)
      replace H := Option.bind_eq_some_iff.mp H
      obtain ⟨t175, A40, H⟩ := H
      replace H : (impl_LensOk.j0 k l0 (!t175)) = some r := H
      have A4 := Aside0.mk A40
      clear A40
      have H' := Aside0.mk H
      clear H
      go_wp2_with (first | (go_at_call 41; (with_reducible refine (impl_allWithin.calls k _ _ l0 0 16 t175 _ ?side1 ?side2 A4.out).mono ?_); (case side1 => repeat (first | exact HR0.out | (with_reducible refine Kd.C_alloc ?_ _) | (with_reducible refine Kd.C_drewN ?_ _) | (with_reducible refine Kd.C_drew ?_))); (case side2 => exact HC0.out); rintro e w' ⟨rfl, ⟨nd, rfl⟩⟩))
      go_meet
      case rel => exact ⟨_, (!t175), (by first | rfl | (simp; done) | (simp [*]; done)), H', ⟨by first | omega | exact Nat.le_refl _⟩, by repeat (first | exact Drawn0.refl _ | apply Drawn0.step)⟩
  case rest =>
    clear HC2
    try clear c2
    try clear p2
    try clear c3
    try clear c3b0
    try clear c3b1
    obtain ⟨kq, x13_1, rfl, HA, HJ1, ⟨mc1, rfl⟩⟩ := hcut
    cases kq with
    | zero => exact absurd HA.out (by simp [impl_LensOk.j0])
    | succ kj1 =>
      have H := HA.out
      clear HA
      simp only [impl_LensOk.j0] at H
      by_cases c5 : x13_1 = true
      · subst c5
        have H1 : (some false) = some r := by rw [if_pos rfl] at H; exact H
        clear H
        have H := H1
        clear H1
        obtain rfl := Option.some.inj H
        go_wp2
        go_ret
        exact ⟨by first | rfl | (simp; done) | (simp [*]; done), by repeat (first | exact Drawn0.refl _ | apply Drawn0.step)⟩
      · replace c5 := Bool.eq_false_iff.mpr c5
        subst c5
        have H1 : (impl_LensOk.l0 kj1 0 l0 (l0.length : Int) 0) = some r := by rw [if_neg (show ¬ (false = true) by decide)] at H; exact H
        clear H
        have H := H1
        clear H1
        have H' := Aside0.mk H
        clear H
        go_wp2
        go_loopg [3, 16] kj1 (fun kq v3 v16 w' => ∃ (x3_2 : Int) (x16_2 : Int), v3 = .int .i64 x3_2 ∧ v16 = .int .i64 x16_2 ∧ Aside0 (impl_LensOk.l0 kq x3_2 l0 (l0.length : Int) x16_2 = some r) ∧ Aside0 (kq ≤ kj1) ∧ Drawn0 w w')
        case atStart => exact ⟨(0), (0), (by first | rfl | (simp; done) | (simp [*]; done)), (by first | rfl | (simp; done) | (simp [*]; done)), H', ⟨Nat.le_refl _⟩, by repeat (first | exact Drawn0.refl _ | apply Drawn0.step)⟩
        case round =>
          clear H'
          try clear c1
          try clear c2
          try clear p2
          try clear c3
          try clear c3b0
          try clear c3b1
          try clear c5
          try clear p2
          obtain ⟨x3_2, x16_2, rfl, rfl, HA, HK2, ⟨m2, rfl⟩⟩ := hrel
          cases gk with
          | zero => exact absurd HA.out (by simp [impl_LensOk.l0])
          | succ k2 =>
            have H := HA.out
            clear HA
            simp only [impl_LensOk.l0] at H
            by_cases c6 : x16_2 < (l0.length : Int)
            · rw [if_pos c6] at H
              have c6b0 : decide (x16_2 < (l0.length : Int)) = true := decide_eq_true c6
              clear c6
              by_cases c7 : 0 ≤ x16_2
              · rw [if_pos c7] at H
                have c7b0 : decide (0 ≤ x16_2) = true := decide_eq_true c7
                clear c7
                by_cases c8 : x16_2 < (l0.length : Int)
                · rw [if_pos c8] at H
                  have c8b0 : decide (x16_2 < (l0.length : Int)) = true := decide_eq_true c8
                  clear c8
                  by_cases c9 : (rd l0 x16_2) > 0
                  · rw [if_pos c9] at H
                    have c9b0 : decide (0 < (rd l0 x16_2)) = true := decide_eq_true c9
                    clear c9
                    obtain ⟨ji10, hji10⟩ : ∃ j_ : Int, (wrap64 (16 - (rd l0 x16_2))) = j_ := ⟨_, rfl⟩
                    replace H : (if 0 ≤ (ji10) then (impl_LensOk.l0 k2 (wrap64 (x3_2 + (shl .i64 1 (ji10)))) l0 (l0.length : Int) (wrap64 (x16_2 + 1))) else (none)) = some r := by first | (rw [hji10] at H; exact H) | (simp only [hji10] at H ⊢; exact H)
                    have hji10w : (IntKind.i64.wrap (16 - (rd l0 x16_2))) = ji10 := (i64_w _).trans hji10
                    by_cases c11 : 0 ≤ (ji10)
                    · rw [if_pos c11] at H
                      have c11b0 := eq_true c11
                      have c11b1 : decide (0 ≤ (ji10)) = true := decide_eq_true c11
                      clear c11
                      obtain ⟨ji12, hji12⟩ : ∃ j_ : Int, (shl .i64 1 (ji10)) = j_ := ⟨_, rfl⟩
                      replace H : (impl_LensOk.l0 k2 (wrap64 (x3_2 + (ji12))) l0 (l0.length : Int) (wrap64 (x16_2 + 1))) = some r := by first | (rw [hji12] at H; exact H) | (simp only [hji12] at H ⊢; exact H)
                      have hji12_ : (IntKind.i64.wrap (1 * 2 ^ min (ji10).toNat 64)) = ji12 := hji12
                      have hji12z : (ji10) ≤ 64 → (IntKind.i64.wrap (1 * 2 ^ (ji10).toNat)) = ji12 := shl_small hji12
                      have hji12u : (IntKind.i64.wrap (2 ^ min (ji10).toNat 64)) = ji12 := by have h_ := hji12_; rw [Int.one_mul] at h_; exact h_
                      have hji12v : (ji10) ≤ 64 → (IntKind.i64.wrap (2 ^ (ji10).toNat)) = ji12 := fun hle_ => by have h_ := hji12z hle_; rw [Int.one_mul] at h_; exact h_
                      have hji12y : (wrap64 (1 * 2 ^ min (ji10).toNat 64)) = ji12 := (i64_w _).symm.trans hji12_
                      have hji12x : (ji10) ≤ 64 → (wrap64 (1 * 2 ^ (ji10).toNat)) = ji12 := fun h_ => (i64_w _).symm.trans (hji12z h_)
                      have H' := Aside0.mk H
                      clear H
                      have p176 : 0 ≤ (x16_2 : Int) := of_decide_eq_true (by first | (with_reducible assumption) | assumption)
                      have q176 : x16_2 < (l0.length : Int) := of_decide_eq_true (by first | (with_reducible assumption) | assumption)
                      obtain ⟨ad176, e176, hx176_0⟩ := Kd.at_int HR0.out x16_2 p176 q176
                      cases e176
                      replace p176 := eq_true p176
                      replace q176 := eq_true q176
                      go_wp2
                      go_roundg k2
                      case measure => have := HJ1.out; have := HK2.out; omega
                      case rel => exact ⟨(wrap64 (x3_2 + (ji12))), (wrap64 (x16_2 + 1)), (by first | rfl | (simp; done) | (simp only [← hji12] <;> (first | rfl | simp)) | (simp [*]; done)), (by first | rfl | (simp; done) | (simp [*]; done)), H', ⟨by have := HJ1.out; have := HK2.out; omega⟩, by repeat (first | exact Drawn0.refl _ | apply Drawn0.step)⟩
                    · rw [if_neg c11] at H
                      exact absurd H (by simp)
                  · rw [if_neg c9] at H
                    have c9b0 : decide (0 < (rd l0 x16_2)) = false := decide_eq_false c9
                    clear c9
                    have H' := Aside0.mk H
                    clear H
                    have p176 : 0 ≤ (x16_2 : Int) := of_decide_eq_true (by first | (with_reducible assumption) | assumption)
                    have q176 : x16_2 < (l0.length : Int) := of_decide_eq_true (by first | (with_reducible assumption) | assumption)
                    obtain ⟨ad176, e176, hx176_0⟩ := Kd.at_int HR0.out x16_2 p176 q176
                    cases e176
                    replace p176 := eq_true p176
                    replace q176 := eq_true q176
                    go_wp2
                    go_roundg k2
                    case measure => have := HJ1.out; have := HK2.out; omega
                    case rel => exact ⟨(x3_2), (wrap64 (x16_2 + 1)), (by first | rfl | (simp; done) | (simp [*]; done)), (by first | rfl | (simp; done) | (simp [*]; done)), H', ⟨by have := HJ1.out; have := HK2.out; omega⟩, by repeat (first | exact Drawn0.refl _ | apply Drawn0.step)⟩
                · rw [if_neg c8] at H
                  exact absurd H (by simp)
              · rw [if_neg c7] at H
                exact absurd H (by simp)
            · rw [if_neg c6] at H
              have c6b0 : decide (x16_2 < (l0.length : Int)) = false := decide_eq_false c6
              clear c6
              replace H := Option.bind_eq_some_iff.mp H
              obtain ⟨t177, A130, H⟩ := H
              replace H : (some t177) = some r := H
              have A13 := Aside0.mk A130
              clear A130
              obtain rfl := Option.some.inj H
              go_wp2_with (first | ((with_reducible refine gate_callee (f := 29) rfl ?_); refine goesL_ (some 29) rfl rfl Try.func29 (by kernel_rfl) rfl #[.int .i64 x3_2, .int .i64 1, .int .i64 65536] rfl (by (try simp only [List.map_toArray, List.map_cons, List.map_nil]); first | done | rfl | (simp only [List.length_drop, List.length_take]; rfl)) ?_; (with_reducible refine (impl_within.calls x3_2 1 65536 t177 _ A13.out).mono ?_); rintro e w' ⟨rfl, ⟨nd, rfl⟩⟩; refine ⟨_, rfl, ?_⟩))
              go_ret
              exact ⟨by first | rfl | (simp; done) | (simp [*]; done), by repeat (first | exact Drawn0.refl _ | apply Drawn0.step)⟩

theorem iLens_l0 (l : List Int) (hl : l.length ≤ 256) (ha : allR l 0 16 = true) : ∀ (d i : Nat) (sum : Int), i + d = l.length → 0 ≤ sum → sum ≤ 65536 * i → Ev (fun k => impl_LensOk.l0 k sum l (l.length : Int) i) (inR (sum + krL (l.drop i)) 1 65536) := by
  intro d
  induction d with
  | zero =>
    intro i sum hd h0 h1
    refine Ev.step (fun k => by rw [impl_LensOk.l0]) (evNeg (by omega) ?_)
    rw [List.drop_eq_nil_of_le (by omega)]
    simp only [krL, List.map_nil, List.sum_nil, Int.add_zero]
    exact evBind (evConst (within_f _ _ _)) (Ev.now _)
  | succ d ih =>
    intro i sum hd h0 h1
    have hlt : i < l.length := by omega
    have hb := inR_iff.1 (List.all_eq_true.1 ha l[i] (List.getElem_mem hlt))
    have kb := krS_range hb.1 hb.2
    have hs := ih (i + 1) (sum + krS l[i]) (by omega) (by omega) (by omega)
    refine Ev.step (fun k => by rw [impl_LensOk.l0]) (evPos (by omega) (evPos (by omega) (evPos (by omega) ?_)))
    rw [rd_nat hlt, drop_get hlt]
    simp only [krL, List.map_cons, List.sum_cons]
    rw [← Int.add_assoc]
    refine evIf (fun hp => ?_) (fun hp => ?_)
    · rw [w64 (x := 16 - l[i]) (by omega) (by omega)]
      refine evPos (by omega) ?_
      have ek : shl .i64 1 (16 - l[i]) = krS l[i] := by unfold krS; rw [if_pos hp]
      rw [ek, w64 (x := sum + krS l[i]) (by omega) (by omega), show (i : Int) + 1 = ((i + 1 : Nat) : Int) from by omega, w64n (by omega)]
      exact hs
    · have ek : krS l[i] = 0 := by unfold krS; rw [if_neg hp]
      rw [ek, Int.add_zero] at hs
      rw [ek, Int.add_zero, show (i : Int) + 1 = ((i + 1 : Nat) : Int) from by omega, w64n (by omega)]
      exact hs
theorem iLens_f (l : List Int) (hl : l.length ≤ maxLen) : Ev (fun k => impl_LensOk.f k l) (lensB l) := by
  unfold impl_LensOk.f lensB
  refine evIf (fun h => ?_) (fun h => ?_)
  · rw [decide_eq_false (by omega)]
    refine Ev.step (fun k => by rw [impl_LensOk.j0]) (evPos rfl ?_)
    exact Ev.now _
  · rw [decide_eq_true (by omega), Bool.true_and]
    refine evBind (allWithin_f l 0 16 hl) ?_
    refine Ev.step (fun k => by rw [impl_LensOk.j0]) ?_
    by_cases ha : allR l 0 16 = true
    · rw [ha]
      refine evNeg (by simp) ?_
      have := iLens_l0 l (by omega) ha l.length 0 0 (by omega) (by omega) (by omega)
      rw [List.drop_zero, Int.zero_add] at this
      exact this
    · rw [Bool.eq_false_iff.mpr ha]
      exact evPos rfl (Ev.now _)

/-! ### impl_CodesOf: function 28 -/
mutual
def impl_CodesOf.l0 : Nat → List Int → List (S41) → Int → Int → Option ((List (S41)))
  | 0, _, _, _, _ => none
  | k + 1, x0, x3, x4, x5 => if x5 ≤ 16 then (impl_CodesOf.l1 k x0 x3 (wrap64 (x4 * 2)) x5 x0 (x0.length : Int) 0) else (some x3)
def impl_CodesOf.l1 : Nat → List Int → List (S41) → Int → Int → List Int → Int → Int → Option ((List (S41)))
  | 0, _, _, _, _, _, _, _ => none
  | k + 1, x0, x3, x4, x5, x20, x21, x22 => if x22 < x21 then (if 0 ≤ x22 then (if x22 < (x20.length : Int) then (if (rd x20 x22) = x5 then (if x22 < (x3.length : Int) then (impl_CodesOf.l1 k x0 (x3.set (x22 : Int).toNat (⟨x5, x4⟩ : S41)) (wrap64 (x4 + 1)) x5 x20 x21 (wrap64 (x22 + 1))) else (none)) else (impl_CodesOf.l1 k x0 x3 x4 x5 x20 x21 (wrap64 (x22 + 1)))) else (none)) else (none)) else (impl_CodesOf.l0 k x0 x3 x4 (wrap64 (x5 + 1)))
end
def impl_CodesOf.f (k : Nat) (l0 : List Int) : Option ((List (S41))) := (impl_LensOk.f k l0).bind fun t178 => (if t178 = true then (if 0 ≤ (l0.length : Int) then (if ((l0.length : Int) : Int).toNat ≤ 17592186044416 then (impl_CodesOf.l0 k l0 (List.replicate ((l0.length : Int) : Int).toNat z41) 0 1) else (none)) else (none)) else (some ([] : List (S41))))
theorem impl_CodesOf.mono_l : ∀ k, (∀ y0 y1 y2 y3, LeO (impl_CodesOf.l0 k y0 y1 y2 y3) (impl_CodesOf.l0 (k + 1) y0 y1 y2 y3)) ∧ (∀ y0 y1 y2 y3 y4 y5 y6, LeO (impl_CodesOf.l1 k y0 y1 y2 y3 y4 y5 y6) (impl_CodesOf.l1 (k + 1) y0 y1 y2 y3 y4 y5 y6))
  | 0 => ⟨fun _ _ _ _ r h => by simp [impl_CodesOf.l0] at h, fun _ _ _ _ _ _ _ r h => by simp [impl_CodesOf.l1] at h⟩
  | k + 1 => by
    obtain ⟨ih0, ih1⟩ := impl_CodesOf.mono_l k
    refine ⟨?_, ?_⟩
    · intro y0 y1 y2 y3
      unfold impl_CodesOf.l0
      repeat' first
      | (with_reducible exact ih0 _ _ _ _)
      | (with_reducible exact ih1 _ _ _ _ _ _ _)
      | (with_reducible exact impl_LensOk.mono _ _)
      | (with_reducible exact LeO.refl _)
      | (with_reducible exact LeO.none _)
      | (with_reducible refine LeO.ite ?_ ?_)
      | (with_reducible refine LeO.bind ?_ (fun _ => ?_))
      | exact ih0 _ _ _ _
      | exact ih1 _ _ _ _ _ _ _
      | exact impl_LensOk.mono _ _
      | exact LeO.none _
      | refine LeO.ite ?_ ?_
      | refine LeO.bind ?_ (fun _ => ?_)
    · intro y0 y1 y2 y3 y4 y5 y6
      unfold impl_CodesOf.l1
      repeat' first
      | (with_reducible exact ih0 _ _ _ _)
      | (with_reducible exact ih1 _ _ _ _ _ _ _)
      | (with_reducible exact impl_LensOk.mono _ _)
      | (with_reducible exact LeO.refl _)
      | (with_reducible exact LeO.none _)
      | (with_reducible refine LeO.ite ?_ ?_)
      | (with_reducible refine LeO.bind ?_ (fun _ => ?_))
      | exact ih0 _ _ _ _
      | exact ih1 _ _ _ _ _ _ _
      | exact impl_LensOk.mono _ _
      | exact LeO.none _
      | refine LeO.ite ?_ ?_
      | refine LeO.bind ?_ (fun _ => ?_)
theorem impl_CodesOf.mono : ∀ a0 k, LeO (impl_CodesOf.f k a0) (impl_CodesOf.f (k + 1) a0) := by
  intro a0 k
  obtain ⟨ih0, ih1⟩ := impl_CodesOf.mono_l k
  unfold impl_CodesOf.f
  repeat' first
      | (with_reducible exact ih0 _ _ _ _)
      | (with_reducible exact ih1 _ _ _ _ _ _ _)
      | (with_reducible exact impl_LensOk.mono _ _)
      | (with_reducible exact LeO.refl _)
      | (with_reducible exact LeO.none _)
      | (with_reducible refine LeO.ite ?_ ?_)
      | (with_reducible refine LeO.bind ?_ (fun _ => ?_))
      | exact ih0 _ _ _ _
      | exact ih1 _ _ _ _ _ _ _
      | exact impl_LensOk.mono _ _
      | exact LeO.none _
      | refine LeO.ite ?_ ?_
      | refine LeO.bind ?_ (fun _ => ?_)
set_option maxHeartbeats 8000000 in
set_option maxRecDepth 100000 in
theorem impl_CodesOf.calls (k : Nat) (A0 : Option Addr) (c0 : Nat) (l0 : List Int) (r : List (S41)) (w : World) (hr0 : Kd.C (Kd.int .i64) w A0 l0.length l0) (hc0 : l0.length ≤ c0) (h : impl_CodesOf.f k l0 = some r) :
    Calls Try.prog 28 #[.slice A0 l0.length c0] w fun e w' => ∃ v0_ : Value, e = .returned (v0_) ∧ Kd.R k41 41 w' w.heap.size (fun _ => True) v0_ r ∧ Below w.heap.size w w' := by
  have hu41 := Try.underlying41
  have HR0 := Aside0.mk hr0
  have HC0 := Aside0.mk hc0
  clear hr0 hc0
  have HB := Aside0.mk (Below.refl w.heap.size w)
  have H : ((impl_LensOk.f k l0).bind fun t178 => (if t178 = true then (if 0 ≤ (l0.length : Int) then (if ((l0.length : Int) : Int).toNat ≤ 17592186044416 then (impl_CodesOf.l0 k l0 (List.replicate ((l0.length : Int) : Int).toNat z41) 0 1) else (none)) else (none)) else (some ([] : List (S41))))) = some r := h
  clear h
  replace H := Option.bind_eq_some_iff.mp H
  obtain ⟨t178, A20, H⟩ := H
  replace H : (if t178 = true then (if 0 ≤ (l0.length : Int) then (if ((l0.length : Int) : Int).toNat ≤ 17592186044416 then (impl_CodesOf.l0 k l0 (List.replicate ((l0.length : Int) : Int).toNat z41) 0 1) else (none)) else (none)) else (some ([] : List (S41)))) = some r := H
  have A2 := Aside0.mk A20
  clear A20
  by_cases c3 : t178 = true
  · subst c3
    have H1 : (if 0 ≤ (l0.length : Int) then (if ((l0.length : Int) : Int).toNat ≤ 17592186044416 then (impl_CodesOf.l0 k l0 (List.replicate ((l0.length : Int) : Int).toNat z41) 0 1) else (none)) else (none)) = some r := by rw [if_pos rfl] at H; exact H
    clear H
    have H := H1
    clear H1
    by_cases c4 : 0 ≤ (l0.length : Int)
    · rw [if_pos c4] at H
      have c4b0 := eq_true c4
      have c4b1 : decide (0 ≤ (l0.length : Int)) = true := decide_eq_true c4
      clear c4
      by_cases c5 : ((l0.length : Int) : Int).toNat ≤ 17592186044416
      · rw [if_pos c5] at H
        have c5b0 := eq_true c5
        have c5b1 : decide (((l0.length : Int) : Int).toNat ≤ 17592186044416) = true := decide_eq_true c5
        clear c5
        obtain ⟨y179, hy179⟩ : ∃ y_ : List (S41), y_ = (List.replicate ((l0.length : Int) : Int).toNat z41) := ⟨_, rfl⟩
        replace H : (impl_CodesOf.l0 k l0 y179 0 1) = some r := by first | (rw [hy179]; with_reducible exact H) | (have H2_ := (Option.bind_some _ _).symm.trans H; rw [hy179]; with_reducible exact H2_) | (have H2_ := (Option.bind_some _ _).symm.trans H; with_reducible exact H2_) | with_reducible exact H | (rw [hy179]; exact H) | exact H
        have Ny179 := Aside0.mk hy179
        clear hy179
        have H' := Aside0.mk H
        clear H
        go_enter Try.func28, Try.ntmps28
        go_wp2_with (first | ((with_reducible refine gate_callee (f := 21) rfl ?_); refine goesL_ (some 9) rfl rfl Try.func21 (by kernel_rfl) rfl #[.slice A0 l0.length c0] rfl (by (try simp only [List.map_toArray, List.map_cons, List.map_nil]); first | done | rfl | (simp only [List.length_drop, List.length_take]; rfl)) ?_; (with_reducible refine (impl_LensOk.calls k _ _ l0 true _ ?side1 ?side2 A2.out).mono ?_); (case side1 => repeat (first | exact HR0.out | (with_reducible refine Kd.C_alloc ?_ _) | (with_reducible refine Kd.C_drewN ?_ _) | (with_reducible refine Kd.C_drew ?_))); (case side2 => exact HC0.out); rintro e w' ⟨rfl, ⟨nd, rfl⟩⟩; refine ⟨_, rfl, ?_⟩) | ((with_reducible refine gate_dst (N := 13) rfl ?_); refine Kd.R_make k41 _ 41 rfl (N := 13) rfl 37 _ _ rfl (l0.length : Int) rfl rfl Try.underlying37 (.agg #[(.int .i64 0), (.int .i64 0)]) 16 info41 rfl (by decide) (by omega) z41 (ok := fun _ => True) (okp := fun _ => True) (k41_mkM _ _ _ z41 ) (fun _ hk => hk) trivial (of_decide_eq_true (by first | (with_reducible assumption) | assumption)) (Nat.le_trans (Nat.mul_le_mul_right _ (of_decide_eq_true (by first | (with_reducible assumption) | assumption) : (l0.length : Int).toNat ≤ 17592186044416)) (by omega)) (Below.refl _ _) (Nat.le_refl _) ?_; intro v180 w6 ho7 hb hg_ hnew_; clear hg_ hnew_; (first | rw [← Ny179.out] at ho7 | (simp only [Int.reduceToNat] at ho7; rw [← Ny179.out] at ho7)); have n0_ := Aside0.mk (Kd.R_lower ho7 (below_size (by repeat (first | (with_reducible first | exact HB.out | apply below_alloc | apply pw_below_drewN | apply below_drew1) | exact HB.out)))); have n1_ := Aside0.mk (below_step (by repeat (first | (with_reducible first | exact HB.out | apply below_alloc | apply pw_below_drewN | apply below_drew1) | exact HB.out)) hb); clear HB; have HO181 := n0_; have HB := n1_; clear n0_ n1_; clear hb ho7))
        go_loopg [4, 5] k (fun kq v4 v5 w' => ∃ (x3_1 : List (S41)) (x4_1 : Int) (x5_1 : Int), v4 = .int .i64 x4_1 ∧ v5 = .int .i64 x5_1 ∧ Aside0 (impl_CodesOf.l0 kq l0 x3_1 x4_1 x5_1 = some r) ∧ Aside0 (kq ≤ k) ∧ Aside0 (Kd.R k41 41 w' w.heap.size (fun _ => True) v180 x3_1) ∧ Aside0 (Below w.heap.size w w'))
        case atStart => exact ⟨(y179), (0), (1), (by first | rfl | (simp; done) | (simp [*]; done)), (by first | rfl | (simp; done) | (simp [*]; done)), H', ⟨Nat.le_refl _⟩, ⟨by (with_reducible repeat (first | apply Kd.R_alloc | apply Kd.R_drewN | apply Kd.R_drew)); exact HO181.out⟩, ⟨by repeat (first | (with_reducible first | exact HB.out | apply below_alloc | apply pw_below_drewN | apply below_drew1) | exact HB.out)⟩⟩
        case round =>
          clear H'
          try clear c2
          try clear p2
          try clear c3
          try clear c4
          try clear c4b0
          try clear c4b1
          try clear c5
          try clear c5b0
          try clear c5b1
          obtain ⟨x3_1, x4_1, x5_1, rfl, rfl, HA, HK1, HO_3, HB⟩ := hrel
          cases gk with
          | zero => exact absurd HA.out (by simp [impl_CodesOf.l0])
          | succ k1 =>
            have H := HA.out
            clear HA
            simp only [impl_CodesOf.l0] at H
            by_cases c8 : x5_1 ≤ 16
            · rw [if_pos c8] at H
              have c8b0 : decide (x5_1 ≤ 16) = true := decide_eq_true c8
              clear c8
              have H' := Aside0.mk H
              clear H
              go_wp2
              go_loopg [4, 22] k1 (fun kq v4 v22 w' => ∃ (x3_2 : List (S41)) (x4_2 : Int) (x22_2 : Int), v4 = .int .i64 x4_2 ∧ v22 = .int .i64 x22_2 ∧ Aside0 (impl_CodesOf.l1 kq l0 x3_2 x4_2 x5_1 l0 (l0.length : Int) x22_2 = some r) ∧ Aside0 (kq ≤ k1) ∧ Aside0 (Kd.R k41 41 w' w.heap.size (fun _ => True) v180 x3_2) ∧ Aside0 (Below w.heap.size w w'))
              case atStart => exact ⟨(x3_1), (wrap64 (x4_1 * 2)), (0), (by first | rfl | (simp; done) | (simp [*]; done)), (by first | rfl | (simp; done) | (simp [*]; done)), H', ⟨Nat.le_refl _⟩, ⟨by (with_reducible repeat (first | apply Kd.R_alloc | apply Kd.R_drewN | apply Kd.R_drew)); exact HO_3.out⟩, ⟨by repeat (first | (with_reducible first | exact HB.out | apply below_alloc | apply pw_below_drewN | apply below_drew1) | exact HB.out)⟩⟩
              case round =>
                clear H'
                try clear c2
                try clear p2
                try clear c3
                try clear c4
                try clear c4b0
                try clear c4b1
                try clear c5
                try clear c5b0
                try clear c5b1
                try clear p6
                try clear c8
                try clear c8b0
                try clear p2
                obtain ⟨x3_2, x4_2, x22_2, rfl, rfl, HA, HK2, HO_3, HB⟩ := hrel
                cases gk with
                | zero => exact absurd HA.out (by simp [impl_CodesOf.l1])
                | succ k2 =>
                  have H := HA.out
                  clear HA
                  simp only [impl_CodesOf.l1] at H
                  by_cases c9 : x22_2 < (l0.length : Int)
                  · rw [if_pos c9] at H
                    have c9b0 : decide (x22_2 < (l0.length : Int)) = true := decide_eq_true c9
                    clear c9
                    by_cases c10 : 0 ≤ x22_2
                    · rw [if_pos c10] at H
                      have c10b0 : decide (0 ≤ x22_2) = true := decide_eq_true c10
                      clear c10
                      by_cases c11 : x22_2 < (l0.length : Int)
                      · rw [if_pos c11] at H
                        have c11b0 : decide (x22_2 < (l0.length : Int)) = true := decide_eq_true c11
                        clear c11
                        by_cases c12 : (rd l0 x22_2) = x5_1
                        · rw [if_pos c12] at H
                          have c12b0 : ((rd l0 x22_2) == x5_1) = true := beq_iff_eq.mpr c12
                          have c12b1 : ((rd l0 x22_2) != x5_1) = false := bne_eq_false_iff_eq.mpr c12
                          clear c12
                          by_cases c13 : x22_2 < (x3_2.length : Int)
                          · rw [if_pos c13] at H
                            have c13b0 : decide (x22_2 < (x3_2.length : Int)) = true := decide_eq_true c13
                            clear c13
                            obtain ⟨y183, hy183⟩ : ∃ y_ : List (S41), y_ = (x3_2.set (x22_2 : Int).toNat (⟨x5_1, x4_2⟩ : S41)) := ⟨_, rfl⟩
                            replace H : (impl_CodesOf.l1 k2 l0 y183 (wrap64 (x4_2 + 1)) x5_1 l0 (l0.length : Int) (wrap64 (x22_2 + 1))) = some r := by first | (rw [hy183]; with_reducible exact H) | (have H2_ := (Option.bind_some _ _).symm.trans H; rw [hy183]; with_reducible exact H2_) | (have H2_ := (Option.bind_some _ _).symm.trans H; with_reducible exact H2_) | with_reducible exact H | (rw [hy183]; exact H) | exact H
                            have Ny183 := Aside0.mk hy183
                            clear hy183
                            have H' := Aside0.mk H
                            clear H
                            have p182 : 0 ≤ (x22_2 : Int) := of_decide_eq_true (by first | (with_reducible assumption) | assumption)
                            have q182 : x22_2 < (l0.length : Int) := of_decide_eq_true (by first | (with_reducible assumption) | assumption)
                            obtain ⟨ad182, e182, hx182_0⟩ := Kd.at_int HR0.out x22_2 p182 q182
                            cases e182
                            replace hx182_0 := (HB.out.cell (World.block_lt_of_cell? w _ hx182_0)).trans hx182_0
                            replace p182 := eq_true p182
                            replace q182 := eq_true q182
                            have p14 : 0 ≤ (x22_2 : Int) := of_decide_eq_true (by first | (with_reducible assumption) | assumption)
                            have q14 : (x22_2 : Int) < ((x3_2.length : Int) : Int) := of_decide_eq_true (by first | (with_reducible assumption) | assumption)
                            obtain ⟨go14, co14, eo14, gb14, gl14, cl14, HG14⟩ := Kd.R_form HO_3.out (by omega)
                            (first | cases eo14 | (injection eo14 with ea_ en_ ec_; (first | subst ea_ | (injection ea_ with ea_; subst ea_)); subst ec_; clear en_))
                            have GB14 := Aside0.mk gb14
                            have GG14 := Aside0.mk HG14
                            clear gb14 gl14 HG14
                            obtain ⟨ce14, hcl14, hM14, hcc14, hfr14⟩ := Kd.R_elem HO_3.out z41 (x22_2 : Int) p14 q14
                            obtain rfl := k41_openM hM14
                            have hx14_0 : wr.cell? ⟨go14, (x22_2 : Int).toNat * 2, none⟩ = some (.int .i64 ((rd_T41 x3_2 x22_2).f0)) := hcc14 0 _ rfl
                            have hx14_1 : wr.cell? ⟨go14, (x22_2 : Int).toNat * 2 + 1, none⟩ = some (.int .i64 ((rd_T41 x3_2 x22_2).f1)) := hcc14 1 _ rfl
                            have hf14_0 : wr.frozen? ⟨go14, (x22_2 : Int).toNat * 2, none⟩ = false := hfr14 0
                            have hf14_1 : wr.frozen? ⟨go14, (x22_2 : Int).toNat * 2 + 1, none⟩ = false := hfr14 1
                            (try clear hcl14); (try clear hcc14); (try clear hfr14); (try clear hM14)
                            replace p14 := eq_true p14
                            replace q14 := eq_true q14
                            have HX15 := Aside0.mk (show Kd.R k41 41 wr w.heap.size (fun _ => True) (.slice (some ⟨go14, 0, none⟩) x3_2.length co14) x3_2 from (by (with_reducible repeat (first | apply Kd.R_alloc | apply Kd.R_drewN | apply Kd.R_drew)); exact HO_3.out))
                            obtain ⟨ce15, hcl15, hM15, hcc15, hfr15⟩ := Kd.R_elem HX15.out z41 (x22_2 : Int) (of_decide_eq_true (by first | (with_reducible assumption) | assumption)) (by have h_ : (x22_2 : Int) < ((x3_2.length : Int) : Int) := of_decide_eq_true (by first | (with_reducible assumption) | assumption); first | exact h_ | (have e_ := (Kd.R_reads' HO_3.out).1; omega) | simpa using h_)
                            obtain rfl := k41_openM hM15
                            have HP15 := Kd.R_seg HX15.out (x22_2 : Int) (of_decide_eq_true (by first | (with_reducible assumption) | assumption)) (by have h_ : (x22_2 : Int) < ((x3_2.length : Int) : Int) := of_decide_eq_true (by first | (with_reducible assumption) | assumption); first | exact h_ | (have e_ := (Kd.R_reads' HO_3.out).1; omega) | simpa using h_) (seg := [.int .i64 x5_1, .int .i64 x4_2]) (j := 0) hcl15 hcc15 (show 2 ≤ 2 from by decide) (x' := (⟨x5_1, x4_2⟩ : S41)) (k41_mkM _ _ _ (⟨x5_1, x4_2⟩ : S41) ) (fun _ hk => hk)
                            have hx15_0 := hcc15 0 _ rfl
                            (try simp only [show (k41).sz = 2 from rfl, Nat.mul_one, Nat.add_zero] at hx15_0)
                            have hf15_0 := hfr15 0
                            (try simp only [show (k41).sz = 2 from rfl, Nat.mul_one, Nat.add_zero] at hf15_0)
                            have hx15_1 := hcc15 1 _ rfl
                            (try simp only [show (k41).sz = 2 from rfl, Nat.mul_one, Nat.add_zero] at hx15_1)
                            have hf15_1 := hfr15 1
                            (try simp only [show (k41).sz = 2 from rfl, Nat.mul_one, Nat.add_zero] at hf15_1)
                            (try clear hcl15); (try clear hcc15); (try clear hfr15); (try clear hM15)
                            go_wp2_with (first | ((with_reducible refine gate_store (t := 41) (p := 35) rfl ?_); refine store_event (t := 41) (p := 35) (v := ?vo_w16) (w1 := ((wr.setCell ⟨go14, (x22_2 : Int).toNat * 2, none⟩ (.int .i64 x5_1)).setCell ⟨go14, (x22_2 : Int).toNat * 2 + 1, none⟩ (.int .i64 x4_2))) ?hg ?ho ?hn ?hr ?_; (case ho => rfl); (case hg => rfl); (case hn => rfl); (case hr => first | (go_simp; done) | (go_simp; rfl)); intro w16 hw; have hg : wr.grownBy w16 (some go14) := (by rw [hw]; exact HP15.2); have hp_ : Kd.R k41 41 w16 w.heap.size (fun _ => True) (.slice (some ⟨go14, 0, none⟩) x3_2.length co14) y183 := (by rw [hw, Ny183.out]; exact HP15.1); clear HP15; have n0_ := Aside0.mk (hp_); have n1_ := Aside0.mk ((by rw [hw]; exact below_set (below_set (HB.out) GB14.out) GB14.out : Below w.heap.size w w16)); clear HO_3; clear HB; have HO_3 := n0_; have HB := n1_; clear n0_ n1_; clear hg hw hp_))
                            go_roundg k2
                            case measure => have := HK1.out; have := HK2.out; omega
                            case rel => exact ⟨(y183), (wrap64 (x4_2 + 1)), (wrap64 (x22_2 + 1)), (by first | rfl | (simp; done) | (simp [*]; done)), (by first | rfl | (simp; done) | (simp [*]; done)), H', ⟨by have := HK1.out; have := HK2.out; omega⟩, ⟨by (with_reducible repeat (first | apply Kd.R_alloc | apply Kd.R_drewN | apply Kd.R_drew)); exact HO_3.out⟩, ⟨by repeat (first | (with_reducible first | exact HB.out | apply below_alloc | apply pw_below_drewN | apply below_drew1) | exact HB.out)⟩⟩
                          · rw [if_neg c13] at H
                            exact absurd H (by simp)
                        · rw [if_neg c12] at H
                          have c12b0 : ((rd l0 x22_2) == x5_1) = false := beq_eq_false_iff_ne.mpr c12
                          have c12b1 : ((rd l0 x22_2) != x5_1) = true := bne_iff_ne.mpr c12
                          have H' := Aside0.mk H
                          clear H
                          have p182 : 0 ≤ (x22_2 : Int) := of_decide_eq_true (by first | (with_reducible assumption) | assumption)
                          have q182 : x22_2 < (l0.length : Int) := of_decide_eq_true (by first | (with_reducible assumption) | assumption)
                          obtain ⟨ad182, e182, hx182_0⟩ := Kd.at_int HR0.out x22_2 p182 q182
                          cases e182
                          replace hx182_0 := (HB.out.cell (World.block_lt_of_cell? w _ hx182_0)).trans hx182_0
                          replace p182 := eq_true p182
                          replace q182 := eq_true q182
                          go_wp2
                          go_roundg k2
                          case measure => have := HK1.out; have := HK2.out; omega
                          case rel => exact ⟨(x3_2), (x4_2), (wrap64 (x22_2 + 1)), (by first | rfl | (simp; done) | (simp [*]; done)), (by first | rfl | (simp; done) | (simp [*]; done)), H', ⟨by have := HK1.out; have := HK2.out; omega⟩, ⟨by (with_reducible repeat (first | apply Kd.R_alloc | apply Kd.R_drewN | apply Kd.R_drew)); exact HO_3.out⟩, ⟨by repeat (first | (with_reducible first | exact HB.out | apply below_alloc | apply pw_below_drewN | apply below_drew1) | exact HB.out)⟩⟩
                      · rw [if_neg c11] at H
                        exact absurd H (by simp)
                    · rw [if_neg c10] at H
                      exact absurd H (by simp)
                  · rw [if_neg c9] at H
                    have c9b0 : decide (x22_2 < (l0.length : Int)) = false := decide_eq_false c9
                    clear c9
                    have H' := Aside0.mk H
                    clear H
                    go_wp2
                    go_roundg k2
                    case measure => have := HK1.out; have := HK2.out; omega
                    case rel => exact ⟨(x3_2), (x4_2), (wrap64 (x5_1 + 1)), (by first | rfl | (simp; done) | (simp [*]; done)), (by first | rfl | (simp; done) | (simp [*]; done)), H', ⟨by have := HK1.out; have := HK2.out; omega⟩, ⟨by (with_reducible repeat (first | apply Kd.R_alloc | apply Kd.R_drewN | apply Kd.R_drew)); exact HO_3.out⟩, ⟨by repeat (first | (with_reducible first | exact HB.out | apply below_alloc | apply pw_below_drewN | apply below_drew1) | exact HB.out)⟩⟩
            · rw [if_neg c8] at H
              have c8b0 : decide (x5_1 ≤ 16) = false := decide_eq_false c8
              clear c8
              obtain rfl := Option.some.inj H
              go_wp2
              go_ret
              exact ⟨_, by first | rfl | (simp [errW_none, errW_some] <;> rfl) | (simp [*, errW_none, errW_some] <;> rfl), by (with_reducible repeat (first | apply Kd.R_alloc | apply Kd.R_drewN | apply Kd.R_drew)); exact HO_3.out, by repeat (first | (with_reducible first | exact HB.out | apply below_alloc | apply pw_below_drewN | apply below_drew1) | exact HB.out)⟩
      · rw [if_neg c5] at H
        exact absurd H (by simp)
    · rw [if_neg c4] at H
      exact absurd H (by simp)
  · replace c3 := Bool.eq_false_iff.mpr c3
    subst c3
    have H1 : (some ([] : List (S41))) = some r := by rw [if_neg (show ¬ (false = true) by decide)] at H; exact H
    clear H
    have H := H1
    clear H1
    obtain rfl := Option.some.inj H
    go_enter Try.func28, Try.ntmps28
    go_wp2_with (first | ((with_reducible refine gate_callee (f := 21) rfl ?_); refine goesL_ (some 9) rfl rfl Try.func21 (by kernel_rfl) rfl #[.slice A0 l0.length c0] rfl (by (try simp only [List.map_toArray, List.map_cons, List.map_nil]); first | done | rfl | (simp only [List.length_drop, List.length_take]; rfl)) ?_; (with_reducible refine (impl_LensOk.calls k _ _ l0 false _ ?side1 ?side2 A2.out).mono ?_); (case side1 => repeat (first | exact HR0.out | (with_reducible refine Kd.C_alloc ?_ _) | (with_reducible refine Kd.C_drewN ?_ _) | (with_reducible refine Kd.C_drew ?_))); (case side2 => exact HC0.out); rintro e w' ⟨rfl, ⟨nd, rfl⟩⟩; refine ⟨_, rfl, ?_⟩))
    go_ret
    exact ⟨_, by first | rfl | (simp [errW_none, errW_some] <;> rfl) | (simp [*, errW_none, errW_some] <;> rfl), by first | exact Kd.R_nil _ _ _ _ _ | exact Kd.N_nil _ _ _ _ _ | exact Kd.V_nil _ _ _ _ _ | exact Kd.Q_nil _ _ _ _ _ | exact Kd.S_nil _ _ _ _ _, by repeat (first | (with_reducible first | exact HB.out | apply below_alloc | apply pw_below_drewN | apply below_drew1) | exact HB.out)⟩

theorem iCodes_l1 (x : List Int) (l : Int) (hx : x.length ≤ 256) (hl0 : 1 ≤ l) (hl1 : l ≤ 16) {r : List S41} : ∀ (d s : Nat) (o : List S41) (n : Int), s + d = x.length → o.length = x.length → 0 ≤ n → n + d ≤ 1099511627776 →
    Ev (fun k => impl_CodesOf.l0 k x (cRow x l d s o n).1 (cRow x l d s o n).2 (l + 1)) r → Ev (fun k => impl_CodesOf.l1 k x o n l x (x.length : Int) s) r := by
  intro d
  induction d with
  | zero =>
    intro s o n hd ho h0 h1 hr
    refine Ev.step (fun k => by rw [impl_CodesOf.l1]) (evNeg (by omega) ?_)
    rw [w64 (by omega) (by omega)]
    exact hr
  | succ d ih =>
    intro s o n hd ho h0 h1 hr
    refine Ev.step (fun k => by rw [impl_CodesOf.l1]) (evPos (by omega) (evPos (by omega) (evPos (by omega) ?_)))
    simp only [cRow] at hr
    rw [show (s : Int) + 1 = ((s + 1 : Nat) : Int) from by omega, w64n (by omega), Int.toNat_natCast]
    by_cases hc : rd x (s : Int) = l
    · rw [if_pos hc] at hr
      rw [w64 (by omega) (by omega)]
      exact evPos hc (evPos (by omega) (ih (s + 1) _ _ (by omega) (by simp [ho]) (by omega) (by omega) hr))
    · rw [if_neg hc] at hr
      exact evNeg hc (ih (s + 1) _ _ (by omega) ho h0 (by omega) hr)
theorem iCodes_l0 (x : List Int) (hx : x.length ≤ 256) : ∀ (d c : Nat) (o : List S41) (n : Int), d + c = 16 → o.length = x.length → 0 ≤ n → (n + 256) * 2 ^ d ≤ 1073741824 →
    Ev (fun k => impl_CodesOf.l0 k x o n ((c + 1 : Nat) : Int)) (cLev x d ((c + 1 : Nat) : Int) o n) := by
  intro d
  induction d with
  | zero =>
    intro c o n hd ho h0 h1
    refine Ev.step (fun k => by rw [impl_CodesOf.l0]) (evNeg (by omega) ?_)
    exact Ev.now _
  | succ d ih =>
    intro c o n hd ho h0 h1
    have hp0 : (0 : Int) < 2 ^ d := Int.pow_pos (by omega)
    have hp : (1 : Int) ≤ 2 ^ d := hp0
    rw [Int.pow_succ, Int.mul_comm (2 ^ d) 2, ← Int.mul_assoc] at h1
    have hn : (n + 256) * 2 * 1 ≤ (n + 256) * 2 * 2 ^ d := Int.mul_le_mul_of_nonneg_left hp (by omega)
    have hk := cRow_len x ((c + 1 : Nat) : Int) x.length 0 o (2 * n)
    refine Ev.step (fun k => by rw [impl_CodesOf.l0]) (evPos (by omega) ?_)
    rw [Int.mul_comm n 2, w64 (by omega) (by omega)]
    refine iCodes_l1 x _ hx (by omega) (by omega) x.length 0 o (2 * n) (by omega) ho (by omega) (by omega) ?_
    rw [show ((c + 1 : Nat) : Int) + 1 = ((c + 1 + 1 : Nat) : Int) from by omega]
    have := ih (c + 1) (cRow x ((c + 1 : Nat) : Int) x.length 0 o (2 * n)).1 (cRow x ((c + 1 : Nat) : Int) x.length 0 o (2 * n)).2 (by omega) (by omega) (by omega) (by
      have : ((cRow x ((c + 1 : Nat) : Int) x.length 0 o (2 * n)).2 + 256) * 2 ^ d ≤ (n + 256) * 2 * 2 ^ d := Int.mul_le_mul_of_nonneg_right (by omega) (by omega)
      omega)
    simp only [cLev]
    rw [show ((c + 1 : Nat) : Int) + 1 = ((c + 1 + 1 : Nat) : Int) from by omega]
    exact this
theorem iCodes_f (x : List Int) (hl : x.length ≤ maxLen) : Ev (fun k => impl_CodesOf.f k x) (codesL x) := by
  unfold impl_CodesOf.f codesL
  refine evBind (iLens_f x hl) ?_
  by_cases h : lensB x = true
  · have hx := lensB_len h
    rw [if_pos h]
    refine evPos h (evPos (by omega) (evPos (by omega) ?_))
    exact iCodes_l0 x hx 16 0 _ 0 (by omega) (by simp) (by omega) (by decide)
  · rw [if_neg h]
    exact evNeg h (Ev.now _)
def fG (o : List S41) (i : Nat) : S41 := rd_T41 o (i : Int)
theorem fG_set (o : List S41) (s : Nat) (v : S41) (i : Nat) (h : s < o.length) : fG (o.set s v) i = if i = s then v else fG o i := by
  unfold fG rd_T41
  rw [Int.toNat_natCast, List.getD_eq_getElem?_getD, List.getD_eq_getElem?_getD]
  by_cases hi : i = s
  · subst hi
    rw [if_pos rfl, List.getElem?_set_self h]
    rfl
  · rw [if_neg hi, List.getElem?_set_ne (Ne.symm hi)]
theorem fG_rep (n i : Nat) : fG (List.replicate n z41) i = z41 := by
  unfold fG rd_T41
  rw [Int.toNat_natCast, List.getD_eq_getElem?_getD, List.getElem?_replicate]
  split <;> rfl
structure PreC (x : List Int) (l : Int) (s : Nat) (o : List S41) (n : Int) : Prop where
  len : o.length = x.length
  f0 : ∀ i : Nat, (fG o i).f0 = if 1 ≤ rd x (i : Int) ∧ (rd x (i : Int) < l ∨ rd x (i : Int) = l ∧ i < s) then rd x (i : Int) else 0
  ub : ∀ i : Nat, (fG o i).f0 ≠ 0 → ((fG o i).f1 + 1) * 2 ^ (l - (fG o i).f0).toNat ≤ n
  pre : ∀ i k : Nat, i ≠ k → (fG o i).f0 ≠ 0 → (fG o k).f0 ≠ 0 → (fG o i).f0 ≤ (fG o k).f0 → (fG o k).f1 / 2 ^ ((fG o k).f0 - (fG o i).f0).toNat ≠ (fG o i).f1
theorem PreC.lo {x : List Int} {l : Int} {s : Nat} {o : List S41} {n : Int} (h : PreC x l s o n) (i : Nat) (hi : (fG o i).f0 ≠ 0) : 1 ≤ (fG o i).f0 ∧ (fG o i).f0 ≤ l := by
  have := h.f0 i
  split at this <;> omega
theorem PreC.put {x : List Int} {l : Int} {s : Nat} {o : List S41} {n : Int} (h : PreC x l s o n) (hl : 1 ≤ l) (hs : s < x.length) (hx : rd x (s : Int) = l) : PreC x l (s + 1) (o.set s ⟨l, n⟩) (n + 1) := by
  have hso : s < o.length := by rw [h.len]; exact hs
  have G := fun i => fG_set o s ⟨l, n⟩ i hso
  refine ⟨by rw [List.length_set]; exact h.len, fun i => ?_, fun i => ?_, fun i k => ?_⟩
  · rw [G]
    by_cases hi : i = s
    · subst hi
      rw [if_pos rfl, if_pos ⟨by omega, .inr ⟨hx, by omega⟩⟩, hx]
    · rw [if_neg hi, h.f0 i]
      by_cases hc : 1 ≤ rd x (i : Int) ∧ (rd x (i : Int) < l ∨ rd x (i : Int) = l ∧ i < s)
      · rw [if_pos hc, if_pos (by omega)]
      · rw [if_neg hc, if_neg (by omega)]
  · rw [G]
    by_cases hi : i = s
    · rw [if_pos hi]
      intro _
      simp
    · rw [if_neg hi]
      intro hne
      have := h.ub i hne
      omega
  · rw [G, G]
    intro hik
    by_cases hi : i = s
    · rw [if_pos hi, if_neg (by omega)]
      intro _ hk hle
      have h1 := h.lo k hk
      have h2 := h.ub k hk
      have e1 : (fG o k).f0 = l := by simp only [] at hle; omega
      rw [e1] at h2 ⊢
      simp only [Int.sub_self, Int.toNat_zero, Int.pow_zero, Int.ediv_one, Int.mul_one] at h2 ⊢
      omega
    · rw [if_neg hi]
      by_cases hk : k = s
      · rw [if_pos hk]
        intro hne _ _
        have h2 := h.ub i hne
        have hp : (0 : Int) < 2 ^ (l - (fG o i).f0).toNat := Int.pow_pos (by omega)
        have := Int.le_ediv_of_mul_le hp h2
        simp only []
        omega
      · rw [if_neg hk]
        exact h.pre i k hik
theorem PreC.skip {x : List Int} {l : Int} {s : Nat} {o : List S41} {n : Int} (h : PreC x l s o n) (hx : rd x (s : Int) ≠ l) : PreC x l (s + 1) o n := by
  refine ⟨h.len, fun i => ?_, h.ub, h.pre⟩
  rw [h.f0 i]
  by_cases hi : i = s
  · subst hi
    by_cases hc : 1 ≤ rd x (i : Int) ∧ (rd x (i : Int) < l ∨ rd x (i : Int) = l ∧ i < i)
    · rw [if_pos hc, if_pos (by omega)]
    · rw [if_neg hc, if_neg (by omega)]
  · by_cases hc : 1 ≤ rd x (i : Int) ∧ (rd x (i : Int) < l ∨ rd x (i : Int) = l ∧ i < s)
    · rw [if_pos hc, if_pos (by omega)]
    · rw [if_neg hc, if_neg (by omega)]
theorem PreC.row {x : List Int} {l : Int} (hl : 1 ≤ l) : ∀ (d s : Nat) (o : List S41) (n : Int), s + d = x.length → PreC x l s o n → PreC x l x.length (cRow x l d s o n).1 (cRow x l d s o n).2 := by
  intro d
  induction d with
  | zero =>
    intro s o n hd h
    obtain rfl : s = x.length := by omega
    exact h
  | succ d ih =>
    intro s o n hd h
    simp only [cRow]
    by_cases hc : rd x (s : Int) = l
    · rw [if_pos hc]
      exact ih (s + 1) _ _ (by omega) (h.put hl (by omega) hc)
    · rw [if_neg hc]
      exact ih (s + 1) _ _ (by omega) (h.skip hc)
theorem PreC.up {x : List Int} {l : Int} {o : List S41} {n : Int} (h : PreC x l x.length o n) : PreC x (l + 1) 0 o (2 * n) := by
  refine ⟨h.len, fun i => ?_, fun i hne => ?_, h.pre⟩
  · rw [h.f0 i]
    by_cases hi : i < x.length
    · by_cases hc : 1 ≤ rd x (i : Int) ∧ (rd x (i : Int) < l ∨ rd x (i : Int) = l ∧ i < x.length)
      · rw [if_pos hc, if_pos (by omega)]
      · rw [if_neg hc, if_neg (by omega)]
    · have := rd_ge (l := x) (i := i) (by omega)
      rw [if_neg (by omega), if_neg (by omega)]
  · have h1 := h.lo i hne
    have h2 := h.ub i hne
    rw [show (l + 1 - (fG o i).f0).toNat = (l - (fG o i).f0).toNat + 1 from by omega, Int.pow_succ, ← Int.mul_assoc]
    omega
theorem PreC.lev {x : List Int} : ∀ (d c : Nat) (o : List S41) (n : Int), d + c = 16 → PreC x ((c + 1 : Nat) : Int) 0 o (2 * n) → ∃ n', PreC x 17 0 (cLev x d ((c + 1 : Nat) : Int) o n) n' := by
  intro d
  induction d with
  | zero =>
    intro c o n hd h
    obtain rfl : c = 16 := by omega
    exact ⟨_, h⟩
  | succ d ih =>
    intro c o n hd h
    have := (PreC.row (l := ((c + 1 : Nat) : Int)) (by omega) x.length 0 o (2 * n) (by omega) h).up
    simp only [cLev]
    rw [show ((c + 1 : Nat) : Int) + 1 = ((c + 1 + 1 : Nat) : Int) from by omega] at this ⊢
    exact ih (c + 1) _ _ (by omega) this
theorem codesL_pre {x : List Int} (h : lensB x = true) : ∃ n', PreC x 17 0 (codesL x) n' := by
  unfold codesL
  rw [if_pos h]
  refine PreC.lev 16 0 _ 0 (by omega) ⟨by simp, fun i => ?_, fun i hne => ?_, fun i k _ hne => ?_⟩
  · rw [fG_rep, if_neg (by omega)]
    rfl
  · rw [fG_rep] at hne
    exact absurd rfl hne
  · rw [fG_rep] at hne
    exact absurd rfl hne
theorem lens_in {x : List Int} (h : lensB x = true) (i : Nat) (hi : i < x.length) : 0 ≤ rd x (i : Int) ∧ rd x (i : Int) ≤ 16 := by
  unfold lensB at h
  rw [Bool.and_eq_true, Bool.and_eq_true] at h
  rw [rd_nat hi]
  exact inR_iff.1 (List.all_eq_true.1 h.2.1 x[i] (List.getElem_mem hi))

end Go.Proofs.Ytgbfioolildbeaa.CT
