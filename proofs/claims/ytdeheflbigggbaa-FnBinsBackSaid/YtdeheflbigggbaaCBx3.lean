/- Functions that a law of this seat reaches: written by a program of this session (wip/xprint.py), and by hand. -/
import Derived.Test.YtdeheflbigggbaaCBx0
import Derived.Test.YtdeheflbigggbaaCBx1
import Derived.Test.YtdeheflbigggbaaCBx2
namespace Go.Proofs.Ytdeheflbigggbaa.CB
open Go.RowKit Go.Proofs.Ytdeheflbigggbaa.B Go.Proofs.YtdeheflbigggbaaW.PrintWords Go.Proofs.YtdeheflbigggbaaW.PrintLast Go.Proofs.YtdeheflbigggbaaW.PrintMore
attribute [local go_sem] max2_int min2_int max_two min_two max_three min_three max_four min_four   -- for this text's walks alone
set_option linter.unusedVariables false
set_option linter.unusedSimpArgs false

/-! ### spec_EncodeBins: function 24 (by hand) -/
theorem between_calls (a b c : Int) (w : World) : Calls Try.prog 58 #[.int .i64 a, .int .i64 b, .int .i64 c] w fun e w' => e = .returned (.bool (inR a b c)) ∧ Drawn0 w w' :=
  spec_l01Between.calls a b c _ w (between_f a b c)
theorem lit_bytes {w W : World} (hb : Below w.heap.size w W) (e : Nat) : Kd.R (Kd.int .u8) e (W.alloc (.cells #[] e)) w.heap.size (fun _ => True) (.slice (some ⟨W.heap.size, 0, none⟩) 0 0) [] := by
  have := World.ownsRow_lit (base := w.heap.size) (e := e) (size := 1) W #[] 0 hb.size (by decide) (by simp)
  exact ⟨fun _ _ => trivial, [], this, Reps.none _ _⟩
def spec_EncodeBins.f (l0 : List S31) : Option (List Int) := if l0.length ≤ 4611686018427387904 then some (encodeI l0) else none
set_option maxHeartbeats 4000000 in
set_option maxRecDepth 100000 in
theorem spec_EncodeBins.calls (A0 : Option Addr) (c0 : Nat) (l0 : List S31) (r : List Int) (w : World) (hr0 : Kd.C k31 w A0 l0.length l0) (hc0 : l0.length ≤ c0) (h : spec_EncodeBins.f l0 = some r) :
    Calls Try.prog 24 #[.slice A0 l0.length c0] w fun e w' => ∃ v0_ : Value, e = .returned (v0_) ∧ Kd.R (Kd.int .u8) 5 w' w.heap.size (fun _ => True) v0_ r ∧ Below w.heap.size w w' := by
  unfold spec_EncodeBins.f at h
  by_cases hl : l0.length ≤ 4611686018427387904
  · rw [if_pos hl] at h
    obtain rfl := Option.some.inj h
    clear h
    have HR := Aside0.mk hr0
    clear hr0 hc0
    by_cases h2 : l0.length ≤ 200000
    · have hu := Try.underlying31
      have HE := Aside0.mk (show encodeI l0 = if l0.all binB = true then encL (l0.map pairB) else [] from by unfold encodeI binsB; rw [decide_eq_true (by omega), Bool.and_true])
      have HN := Aside0.mk h2
      have d2 : (l0.length : Int) ≤ 200000 := by omega
      go_enter Try.func24, Try.ntmps24
      go_wp2
      go_loopg [3] l0.length (fun kq v3 w' => ∃ (k : Nat), v3 = .int .i64 (k : Int) ∧ Aside0 (k + kq = l0.length ∧ (l0.take k).all binB = true) ∧ Aside0 (Drawn0 w w'))
      case atStart => exact ⟨0, rfl, ⟨by omega, by simp⟩, ⟨Drawn0.refl _⟩⟩
      case round =>
        obtain ⟨k, rfl, HQ, HD⟩ := hrel
        by_cases hk : k < l0.length
        · have hki : (k : Int) < (l0.length : Int) := by omega
          obtain ⟨ad, rfl, hx0, hx1⟩ := at_T31 HR.out (k : Int) (by omega) hki
          rw [rdT_nat hk, Int.toNat_natCast] at hx0 hx1
          have y0 := pw_cell_below HD.out.below hx0
          have y1 := pw_cell_below HD.out.below hx1
          have HT := Aside0.mk (show (l0.take (k + 1)).all binB = binB l0[k] from by rw [List.take_succ_eq_append_getElem hk, List.all_append, HQ.out.2]; simp)
          have HAL := Aside0.mk (show l0.all binB = true → binB l0[k] = true from fun h => List.all_eq_true.1 h _ (List.getElem_mem hk))
          clear hx0 hx1
          by_cases c0 : inR l0[k].f0 0 399 = true
          · by_cases c1 : inR l0[k].f1 0 1 = true
            · have C0 := Aside0.mk c0
              have C1 := Aside0.mk c1
              clear c0 c1
              obtain ⟨x0, X0⟩ : ∃ x, Aside0 (x = l0[k].f0) := ⟨_, ⟨rfl⟩⟩
              obtain ⟨x1, X1⟩ : ∃ x, Aside0 (x = l0[k].f1) := ⟨_, ⟨rfl⟩⟩
              rw [← X0.out] at C0 y0
              rw [← X1.out] at C1 y1
              go_wp2_with (go_at_call 58; first | ((with_reducible refine (boolCall (between_calls x0 0 399 _) C0.out).mono ?_); rintro e w' ⟨rfl, ⟨nd, rfl⟩⟩) | ((with_reducible refine (boolCall (between_calls x1 0 1 _) C1.out).mono ?_); rintro e w' ⟨rfl, ⟨nd, rfl⟩⟩))
              go_roundg (l0.length - (k + 1))
              case measure => have := HQ.out.1; omega
              case rel =>
                refine ⟨k + 1, by first | rfl | go_num | simp, ⟨by have := HQ.out.1; omega, ?_⟩, ⟨by repeat (first | exact HD.out | apply Drawn0.step)⟩⟩
                rw [HT.out]
                unfold binB
                rw [← X0.out, ← X1.out, C0.out, C1.out]
                rfl
            · have C0 := Aside0.mk c0
              have C1 := Aside0.mk (Bool.eq_false_iff.2 c1)
              have HZ := Aside0.mk (show encodeI l0 = [] from by rw [HE.out, if_neg (fun h => by have h2 := HAL.out h; unfold binB at h2; rw [C1.out, Bool.and_false] at h2; exact absurd h2 (by simp))])
              clear c0 c1
              obtain ⟨x0, X0⟩ : ∃ x, Aside0 (x = l0[k].f0) := ⟨_, ⟨rfl⟩⟩
              obtain ⟨x1, X1⟩ : ∃ x, Aside0 (x = l0[k].f1) := ⟨_, ⟨rfl⟩⟩
              rw [← X0.out] at C0 y0
              rw [← X1.out] at C1 y1
              go_wp2_with (go_at_call 58; first | ((with_reducible refine (boolCall (between_calls x0 0 399 _) C0.out).mono ?_); rintro e w' ⟨rfl, ⟨nd, rfl⟩⟩) | ((with_reducible refine (boolCall (between_calls x1 0 1 _) C1.out).mono ?_); rintro e w' ⟨rfl, ⟨nd, rfl⟩⟩))
              go_ret
              exact ⟨_, rfl, by rw [HZ.out]; exact lit_bytes (by repeat (first | exact HD.out.below | apply pw_below_drewN | apply below_drew)) _, by repeat (first | exact HD.out.below | apply below_alloc | apply pw_below_drewN | apply below_drew1)⟩
          · have C0 := Aside0.mk (Bool.eq_false_iff.2 c0)
            have HZ := Aside0.mk (show encodeI l0 = [] from by rw [HE.out, if_neg (fun h => by have h2 := HAL.out h; unfold binB at h2; rw [C0.out, Bool.false_and] at h2; exact absurd h2 (by simp))])
            clear c0
            obtain ⟨x0, X0⟩ : ∃ x, Aside0 (x = l0[k].f0) := ⟨_, ⟨rfl⟩⟩
            rw [← X0.out] at C0 y0
            go_wp2_with (go_at_call 58; (with_reducible refine (boolCall (between_calls x0 0 399 _) C0.out).mono ?_); rintro e w' ⟨rfl, ⟨nd, rfl⟩⟩)
            go_ret
            exact ⟨_, rfl, by rw [HZ.out]; exact lit_bytes (by repeat (first | exact HD.out.below | apply pw_below_drewN | apply below_drew)) _, by repeat (first | exact HD.out.below | apply below_alloc | apply pw_below_drewN | apply below_drew1)⟩
        · have hki : ¬ (k : Int) < (l0.length : Int) := by omega
          have HALL := Aside0.mk (show l0.all binB = true from by have := HQ.out.2; rwa [List.take_of_length_le (by omega)] at this)
          have HZ := Aside0.mk (show encodeI l0 = encL (l0.map pairB) from by rw [HE.out, if_pos HALL.out])
          have HOK := Aside0.mk (binsB_ok HALL.out)
          obtain ⟨⟨nd0, rfl⟩⟩ := HD.out
          clear HD HQ HE
          go_wp2_with (go_at_call 66; (with_reducible refine (sWriter_calls _).mono ?_); rintro e W1 ⟨b, g, rfl, e1, b1⟩; have HW := Aside0.mk e1; have HB := Aside0.mk (show Below w.heap.size w W1 from below_step (pw_below_drewN (Below.refl w.heap.size w) nd0) b1); clear e1 b1)
          go_loopg [5] l0.length (fun kq v5 w' => ∃ (j : Nat), v5 = .int .i64 (j : Int) ∧ Aside0 (j + kq = l0.length) ∧ Aside0 (SEncAt w' w.heap.size b g (putsE startE ((l0.map pairB).take j))) ∧ Aside0 (Below w.heap.size w w'))
          case atStart => exact ⟨0, rfl, ⟨by omega⟩, HW, HB⟩
          case round =>
            clear HW HB
            obtain ⟨j, rfl, HQ, HEn, HB⟩ := hrel
            have hst := puts_state l0 HOK.out (Nat.le_trans HN.out (by decide)) j
            have HS1 := Aside0.mk hst.1
            have HS2 := Aside0.mk hst.2
            clear hst
            by_cases hj : j < l0.length
            · have hji : (j : Int) < (l0.length : Int) := by omega
              obtain ⟨ad, rfl, hx0, hx1⟩ := at_T31 HR.out (j : Int) (by omega) hji
              rw [rdT_nat hj, Int.toNat_natCast] at hx0 hx1
              have hbin := HOK.out (pairB l0[j]) (List.mem_map.2 ⟨_, List.getElem_mem hj, rfl⟩)
              obtain ⟨⟨hb0, hb1⟩, hb2⟩ := hbin
              replace hb0 : 0 ≤ l0[j].f0 := hb0
              replace hb1 : l0[j].f0 < 400 := hb1
              replace hb2 : l0[j].f1 = 0 ∨ l0[j].f1 = 1 := hb2
              obtain ⟨ctx, HC⟩ := Int.eq_ofNat_of_zero_le hb0
              have HT := Aside0.mk (show (l0.map pairB).take (j + 1) = (l0.map pairB).take j ++ [((ctx : Int), l0[j].f1)] from by rw [pair_take hj]; unfold pairB; rw [HC])
              rw [HC] at hx0 hb1
              have hc : ctx < 400 := by omega
              have HB2 := Aside0.mk hb2
              have y0 := pw_cell_below HB.out hx0
              have y1 := pw_cell_below HB.out hx1
              clear hb0 hb1 hb2 HC hx0 hx1
              obtain ⟨bit, HBI⟩ : ∃ bit, Aside0 (bit = l0[j].f1) := ⟨_, ⟨rfl⟩⟩
              rw [← HBI.out] at HT HB2 y1
              clear HBI
              go_wp2
              go_still_tail 11, (by kernel_rfl)
              change wpList _ _ _ _ _ wr.drew
              go_wp2_with (go_at_call 67; (with_reducible refine (sPut_calls w.heap.size b g _ _ _ _ ctx bit HB2.out _ (senc_drew HEn.out) HS1.out hc (Nat.le_trans HS2.out (by decide))).mono ?_); rintro e W3 ⟨rfl, e3, b3⟩; have HE3 := Aside0.mk e3; have HB3 := Aside0.mk ((below_drew HB.out).trans b3); clear e3 b3)
              go_roundg (l0.length - (j + 1))
              case measure => have := HQ.out; omega
              case rel =>
                refine ⟨j + 1, by first | rfl | go_num | simp, ⟨by have := HQ.out; omega⟩, ⟨?_⟩, HB3⟩
                rw [HT.out, puts_snoc]
                exact HE3.out
            · have hji : ¬ (j : Int) < (l0.length : Int) := by omega
              have HKE := Aside0.mk (show (l0.map pairB).take j = l0.map pairB from List.take_of_length_le (by rw [List.length_map]; omega))
              rw [HKE.out] at HEn HS1 HS2
              clear HKE
              have HZ2 := Aside0.mk (show encL (l0.map pairB) = endE (putsE startE (l0.map pairB)) from rfl)
              obtain ⟨s, HSS⟩ : ∃ s, Aside0 (s = putsE startE (l0.map pairB)) := ⟨_, ⟨rfl⟩⟩
              rw [← HSS.out] at HEn HS1 HS2 HZ2
              obtain ⟨lik, low, width, out⟩ := s
              have hlow0 : 0 ≤ low := HS1.out.low0
              have hlow1 : low < 8589934592 := by have h1 : low + width ≤ 8589934592 := HS1.out.sum; have h2 : 16777216 ≤ width := HS1.out.w0; omega
              go_wp2_with (go_at_call 68; (with_reducible refine (sEnd_calls w.heap.size b g lik low width out _ HEn.out HS1.out.out hlow0 hlow1 HS2.out).mono ?_); rintro e W4 ⟨v, rfl, hv, b4⟩; have HV := Aside0.mk hv; have HB4 := Aside0.mk (HB.out.trans b4); clear hv b4)
              go_ret
              exact ⟨_, rfl, by rw [HZ.out, HZ2.out]; exact HV.out, HB4.out⟩
    · have HZ := Aside0.mk (show encodeI l0 = [] from by unfold encodeI binsB; rw [decide_eq_false (by omega), Bool.and_false]; rfl)
      have d2 : ¬ (l0.length : Int) ≤ 200000 := by omega
      have d3 : (200000 : Int) < (l0.length : Int) := by omega
      have HD := Aside0.mk (Drawn0.refl w)
      rw [HZ.out]
      go_enter Try.func24, Try.ntmps24
      go_wp2
      go_ret
      exact ⟨_, rfl, lit_bytes (Below.refl _ _) _, below_alloc (Below.refl _ _) _⟩
  · rw [if_neg hl] at h
    cases h
theorem encodeI_length (l : List S31) : (encodeI l).length ≤ 1000000 := by
  unfold encodeI
  split
  · rename_i h
    have h1 := binsB_len h
    have h2 := encL_length (l.map pairB)
    rw [List.length_map] at h2
    omega
  · simp
theorem iEncode_f (l : List S31) (h : l.length ≤ 4611686018427387904) : impl_EncodeBins.f l = some (encodeI l) := by unfold impl_EncodeBins.f; rw [if_pos h]
theorem sEncode_f (l : List S31) (h : l.length ≤ 4611686018427387904) : spec_EncodeBins.f l = some (encodeI l) := by unfold spec_EncodeBins.f; rw [if_pos h]

/-! ### impl_allWithin: function 71 -/
def impl_allWithin.l0 : Nat → Int → Int → List Int → Int → Int → Option (Bool)
  | 0, _, _, _, _, _ => none
  | k + 1, x1, x2, x9, x10, x11 => if x11 < x10 then (if 0 ≤ x11 then (if x11 < (x9.length : Int) then ((impl_within.f (rd x9 x11) x1 x2).bind fun t109 => (if t109 = true then (impl_allWithin.l0 k x1 x2 x9 x10 (wrap64 (x11 + 1))) else (some false))) else (none)) else (none)) else (some true)
def impl_allWithin.f (k : Nat) (l0 : List Int) (a1 : Int) (a2 : Int) : Option (Bool) := impl_allWithin.l0 k a1 a2 l0 (l0.length : Int) 0
theorem impl_allWithin.mono_l : ∀ k, (∀ y0 y1 y2 y3 y4, LeO (impl_allWithin.l0 k y0 y1 y2 y3 y4) (impl_allWithin.l0 (k + 1) y0 y1 y2 y3 y4))
  | 0 => fun _ _ _ _ _ r h => by simp [impl_allWithin.l0] at h
  | k + 1 => by
    have ih0 := impl_allWithin.mono_l k
    · intro y0 y1 y2 y3 y4
      unfold impl_allWithin.l0
      repeat' first
      | (with_reducible exact ih0 _ _ _ _ _)
      | (with_reducible exact LeO.refl _)
      | (with_reducible exact LeO.none _)
      | (with_reducible refine LeO.ite ?_ ?_)
      | (with_reducible refine LeO.bind ?_ (fun _ => ?_))
      | exact ih0 _ _ _ _ _
      | exact LeO.none _
      | refine LeO.ite ?_ ?_
      | refine LeO.bind ?_ (fun _ => ?_)
theorem impl_allWithin.mono : ∀ a0 a1 a2 k, LeO (impl_allWithin.f k a0 a1 a2) (impl_allWithin.f (k + 1) a0 a1 a2) := by
  intro a0 a1 a2 k
  have ih0 := impl_allWithin.mono_l k
  unfold impl_allWithin.f
  repeat' first
      | (with_reducible exact ih0 _ _ _ _ _)
      | (with_reducible exact LeO.refl _)
      | (with_reducible exact LeO.none _)
      | (with_reducible refine LeO.ite ?_ ?_)
      | (with_reducible refine LeO.bind ?_ (fun _ => ?_))
      | exact ih0 _ _ _ _ _
      | exact LeO.none _
      | refine LeO.ite ?_ ?_
      | refine LeO.bind ?_ (fun _ => ?_)
set_option maxHeartbeats 8000000 in
set_option maxRecDepth 100000 in
theorem impl_allWithin.calls (k : Nat) (A0 : Option Addr) (c0 : Nat) (l0 : List Int) (a1 : Int) (a2 : Int) (r : Bool) (w : World) (hr0 : Kd.C (Kd.int .i64) w A0 l0.length l0) (hc0 : l0.length ≤ c0) (h : impl_allWithin.f k l0 a1 a2 = some r) :
    Calls Try.prog 71 #[.slice A0 l0.length c0, .int .i64 a1, .int .i64 a2] w fun e w' => e = .returned (.bool r) ∧ Drawn0 w w' := by
  have HR0 := Aside0.mk hr0
  have HC0 := Aside0.mk hc0
  clear hr0 hc0
  have H : (impl_allWithin.l0 k a1 a2 l0 (l0.length : Int) 0) = some r := h
  clear h
  have H' := Aside0.mk H
  clear H
  go_enter Try.func71, Try.ntmps71
  go_wp2
  go_loopg [11] k (fun kq v11 w' => ∃ (x11_1 : Int), v11 = .int .i64 x11_1 ∧ Aside0 (impl_allWithin.l0 kq a1 a2 l0 (l0.length : Int) x11_1 = some r) ∧ Aside0 (kq ≤ k) ∧ Drawn0 w w')
  case atStart => exact ⟨(0), (by first | rfl | (simp; done) | (simp [*]; done)), H', ⟨Nat.le_refl _⟩, by repeat (first | exact Drawn0.refl _ | apply Drawn0.step)⟩
  case round =>
    clear H'
    try clear p2
    obtain ⟨x11_1, rfl, HA, HK1, ⟨m1, rfl⟩⟩ := hrel
    cases gk with
    | zero => exact absurd HA.out (by simp [impl_allWithin.l0])
    | succ k1 =>
      have H := HA.out
      clear HA
      simp only [impl_allWithin.l0] at H
      by_cases c4 : x11_1 < (l0.length : Int)
      · rw [if_pos c4] at H
        have c4b0 : decide (x11_1 < (l0.length : Int)) = true := decide_eq_true c4
        clear c4
        by_cases c5 : 0 ≤ x11_1
        · rw [if_pos c5] at H
          have c5b0 : decide (0 ≤ x11_1) = true := decide_eq_true c5
          clear c5
          by_cases c6 : x11_1 < (l0.length : Int)
          · rw [if_pos c6] at H
            have c6b0 : decide (x11_1 < (l0.length : Int)) = true := decide_eq_true c6
            clear c6
            replace H := Option.bind_eq_some_iff.mp H
            obtain ⟨t109, A70, H⟩ := H
            replace H : (if t109 = true then (impl_allWithin.l0 k1 a1 a2 l0 (l0.length : Int) (wrap64 (x11_1 + 1))) else (some false)) = some r := H
            have A7 := Aside0.mk A70
            clear A70
            by_cases c8 : t109 = true
            · subst c8
              have H1 : (impl_allWithin.l0 k1 a1 a2 l0 (l0.length : Int) (wrap64 (x11_1 + 1))) = some r := by rw [if_pos rfl] at H; exact H
              clear H
              have H := H1
              clear H1
              have H' := Aside0.mk H
              clear H
              have p108 : 0 ≤ (x11_1 : Int) := of_decide_eq_true (by first | (with_reducible assumption) | assumption)
              have q108 : x11_1 < (l0.length : Int) := of_decide_eq_true (by first | (with_reducible assumption) | assumption)
              obtain ⟨ad108, e108, hx108_0⟩ := Kd.at_int HR0.out x11_1 p108 q108
              cases e108
              replace p108 := eq_true p108
              replace q108 := eq_true q108
              go_wp2_with (first | ((with_reducible refine gate_callee (f := 75) rfl ?_); refine goesL_ (some 18) rfl rfl Try.func75 (by kernel_rfl) rfl #[.int .i64 (rd l0 x11_1), .int .i64 a1, .int .i64 a2] rfl (by (try simp only [List.map_toArray, List.map_cons, List.map_nil]); first | done | rfl | (simp only [List.length_drop, List.length_take]; rfl)) ?_; (with_reducible refine (impl_within.calls (rd l0 x11_1) a1 a2 true _ A7.out).mono ?_); rintro e w' ⟨rfl, ⟨nd, rfl⟩⟩; refine ⟨_, rfl, ?_⟩))
              go_roundg k1
              case measure => have := HK1.out; omega
              case rel => exact ⟨(wrap64 (x11_1 + 1)), (by first | rfl | (simp; done) | (simp [*]; done)), H', ⟨by have := HK1.out; omega⟩, by repeat (first | exact Drawn0.refl _ | apply Drawn0.step)⟩
            · replace c8 := Bool.eq_false_iff.mpr c8
              subst c8
              have H1 : (some false) = some r := by rw [if_neg (show ¬ (false = true) by decide)] at H; exact H
              clear H
              have H := H1
              clear H1
              obtain rfl := Option.some.inj H
              have p108 : 0 ≤ (x11_1 : Int) := of_decide_eq_true (by first | (with_reducible assumption) | assumption)
              have q108 : x11_1 < (l0.length : Int) := of_decide_eq_true (by first | (with_reducible assumption) | assumption)
              obtain ⟨ad108, e108, hx108_0⟩ := Kd.at_int HR0.out x11_1 p108 q108
              cases e108
              replace p108 := eq_true p108
              replace q108 := eq_true q108
              go_wp2_with (first | ((with_reducible refine gate_callee (f := 75) rfl ?_); refine goesL_ (some 18) rfl rfl Try.func75 (by kernel_rfl) rfl #[.int .i64 (rd l0 x11_1), .int .i64 a1, .int .i64 a2] rfl (by (try simp only [List.map_toArray, List.map_cons, List.map_nil]); first | done | rfl | (simp only [List.length_drop, List.length_take]; rfl)) ?_; (with_reducible refine (impl_within.calls (rd l0 x11_1) a1 a2 false _ A7.out).mono ?_); rintro e w' ⟨rfl, ⟨nd, rfl⟩⟩; refine ⟨_, rfl, ?_⟩))
              go_ret
              exact ⟨by first | rfl | (simp; done) | (simp [*]; done), by repeat (first | exact Drawn0.refl _ | apply Drawn0.step)⟩
          · rw [if_neg c6] at H
            exact absurd H (by simp)
        · rw [if_neg c5] at H
          exact absurd H (by simp)
      · rw [if_neg c4] at H
        have c4b0 : decide (x11_1 < (l0.length : Int)) = false := decide_eq_false c4
        clear c4
        obtain rfl := Option.some.inj H
        go_wp2
        go_ret
        exact ⟨by first | rfl | (simp; done) | (simp [*]; done), by repeat (first | exact Drawn0.refl _ | apply Drawn0.step)⟩

theorem allWithin_l0 (lo up : Int) (l : List Int) (hl : l.length ≤ maxLen) : ∀ (d i : Nat), i + d = l.length → Ev (fun k => impl_allWithin.l0 k lo up l (l.length : Int) i) (allR (l.drop i) lo up) := by
  unfold maxLen at hl
  intro d
  induction d with
  | zero =>
    intro i hi
    refine Ev.step (fun k => by rw [impl_allWithin.l0]) ?_
    rw [List.drop_eq_nil_of_le (by omega)]
    exact evNeg (by omega) (Ev.now true)
  | succ d ih =>
    intro i hi
    have h1 : i < l.length := by omega
    refine Ev.step (fun k => by rw [impl_allWithin.l0]) ?_
    refine evPos (by omega) (evPos (by omega) (evPos (by omega) ?_))
    rw [drop_get h1, rd_nat h1, within_f]
    simp only [Option.bind_some, allR, List.all_cons]
    cases inR l[i] lo up with
    | false => exact evNeg (by simp) (Ev.now false)
    | true =>
      refine evPos rfl ?_
      rw [w64 (by omega) (by omega)]
      exact ih (i + 1) (by omega)
theorem allWithin_f (l : List Int) (lo hi : Int) (hl : l.length ≤ maxLen) : Ev (fun k => impl_allWithin.f k l lo hi) (allR l lo hi) := by
  have := allWithin_l0 lo hi l hl l.length 0 (by omega)
  simpa [impl_allWithin.f] using this

/-! ### impl_binReader_next: function 105 (by hand) -/
/-- The reader of bits, at block r; its likelihoods at block p; what it has still to read came in by w0. -/
def DecAt (w0 W : World) (r p : Nat) (bs : List Int) (s : Dec) : Prop :=
  LikAt W p s.lik ∧ (w0.heap.size ≤ p ∧ w0.heap.size ≤ r) ∧ ∃ A c, W.heap[r]? = some (.cells #[.pointer (some ⟨p, 0, none⟩), .int .i64 s.code, .int .i64 s.width, .slice A (bs.drop s.at_).length c] 114 (0, 0)) ∧
    (bs.drop s.at_).length ≤ c ∧ Kd.C (Kd.int .u8) w0 A (bs.drop s.at_).length (bs.drop s.at_)
theorem byteAt_drop (b : List Int) (n : Nat) : byteAt b n = rd (b.drop n) 0 := by
  unfold byteAt
  split
  · rename_i h
    rw [rd_nat h, show (0 : Int) = ((0 : Nat) : Int) from rfl, rd_nat (by rw [List.length_drop]; omega)]
    simp
  · rw [List.drop_eq_nil_of_le (by omega)]
    rfl
theorem dec_set {w0 W : World} {r p : Nat} {bs : List Int} {lik : List Int} {code width : Int} {n : Nat} (h : DecAt w0 W r p bs ⟨lik, code, width, n⟩) {A : Option Addr} {c : Nat} (m : Nat) (hl : (bs.drop m).length ≤ c) (hC : Kd.C (Kd.int .u8) w0 A (bs.drop m).length (bs.drop m)) :
    DecAt w0 (W.setCell ⟨r, 3, none⟩ (.slice A (bs.drop m).length c)) r p bs ⟨lik, code, width, m⟩ := by
  obtain ⟨L, hB, A0, c0, G, _, _⟩ := h
  refine ⟨blk_far L (blk_ne L G (by decide)) _, hB, A, c, ?_, hl, hC⟩
  rw [blk_set G 3]
  rfl
theorem keep_row {w w1 : World} {g p : Nat} (h : KeepBut w w1 g (some p)) (i : Nat) (u : Value) : KeepBut w (w1.setCell ⟨p, i, none⟩ u) g (some p) :=
  ⟨by rw [World.size_setCell]; exact h.1, fun k hk h1 h2 => (Below.heap_setCell w1 _ u k (fun e => h2 (by rw [e]))).trans (h.2 k hk h1 h2)⟩
theorem dec_drewN {w0 W : World} {r p : Nat} {bs : List Int} {s : Dec} (h : DecAt w0 W r p bs s) (n : Nat) : DecAt w0 (W.drewN n) r p bs s := h
theorem dec_drew {w0 W : World} {r p : Nat} {bs : List Int} {s : Dec} (h : DecAt w0 W r p bs s) : DecAt w0 W.drew r p bs s := h
theorem bytes_next {w0 : World} {A : Option Addr} {l : List Int} {c : Nat} (hC : Kd.C (Kd.int .u8) w0 A l.length l) (hl : l.length ≤ c) (h1 : 1 ≤ l.length) : Kd.C (Kd.int .u8) w0 (if c = 1 then A else A.map (·.add 1)) (l.drop 1).length (l.drop 1) := by
  have := ReadsInt.drop_ (readsInt_of.2 (Kd.reads_of_C (d := 0) hC)) 1 h1 hl
  rw [List.length_drop]
  exact Kd.C_of_reads (readsInt_of.1 this)
set_option maxHeartbeats 4000000 in
set_option maxRecDepth 100000 in
theorem iNext_calls (r p : Nat) (bs : List Int) (lik : List Int) (code width : Int) (n : Nat) (w0 W : World) (h : DecAt w0 W r p bs ⟨lik, code, width, n⟩) (hb : Below w0.heap.size w0 W) (hbs : BytesOk bs) :
    Calls Try.prog 105 #[.pointer (some ⟨r, 0, none⟩)] W fun e w' => e = .returned (.int .i64 (byteAt bs n)) ∧ DecAt w0 w' r p bs ⟨lik, code, width, n + 1⟩ ∧ Below w0.heap.size W w' ∧ KeepBut W w' r (some p) := by
  have HD := Aside0.mk h
  by_cases hn : bs.length ≤ n
  · have e0 : bs.drop n = [] := List.drop_eq_nil_of_le hn
    have e1 : bs.drop (n + 1) = [] := List.drop_eq_nil_of_le (by omega)
    have HE := Aside0.mk (show DecAt w0 W r p bs ⟨lik, code, width, n + 1⟩ from by
      have h2 := h
      unfold DecAt at h2 ⊢
      simp only [] at h2 ⊢
      rw [e0] at h2
      rw [e1]
      exact h2)
    obtain ⟨L, hP, A, c, G, hle, hC⟩ := h
    simp only [] at G
    rw [e0] at G
    have hc3 : W.cell? ⟨r, 3, none⟩ = some (.slice A 0 c) := (blk_cell G 3).trans rfl
    have HBY := Aside0.mk (show byteAt bs n = 0 from by unfold byteAt; rw [if_neg (by omega)])
    rw [HBY.out]
    clear HBY L hP G hb hle hC e0 e1 hn
    go_enter Try.func105, Try.ntmps105
    go_wp2
    go_ret
    exact ⟨rfl, HE.out, Below.refl _ _, KeepBut.refl _ _ _⟩
  · obtain ⟨L, hP, A, c, G, hle, hC⟩ := h
    have HP := Aside0.mk hP
    have HB := Aside0.mk hb
    have hc3 : W.cell? ⟨r, 3, none⟩ = some (.slice A (bs.drop n).length c) := (blk_cell G 3).trans rfl
    have hf3 := blk_frozen G 3
    have HBY := Aside0.mk (byteAt_drop bs n)
    rw [HBY.out]
    clear HBY L hP G hb
    have HN := Aside0.mk (show bs.drop (n + 1) = (bs.drop n).drop 1 from by rw [List.drop_drop])
    have HD1 := Aside0.mk (fun (A : Option Addr) (c : Nat) => dec_set (A := A) (c := c) HD.out (n + 1))
    rw [HN.out] at HD1
    have hbd : ∀ x ∈ bs.drop n, 0 ≤ x ∧ x ≤ 255 := fun x hx => hbs x (List.mem_of_mem_drop hx)
    have hne : bs.drop n ≠ [] := fun h => hn (List.drop_eq_nil_iff.1 h)
    generalize bs.drop n = l at hc3 hle hC HD1 hbd hne ⊢
    clear HN
    rcases l with _ | ⟨x, l⟩
    · exact absurd rfl hne
    · have hx0 := hbd x (by simp)
      obtain ⟨ad, e, hx⟩ := Kd.at_int hC 0 (by omega) (by simp)
      subst e
      replace hx : W.cell? ad = some (.int .u8 x) := pw_cell_below HB.out hx
      obtain ⟨hx0, hx1⟩ := hx0
      have HX := Aside0.mk (show rd (x :: l) 0 = x from rfl)
      rw [HX.out]
      have HC := Aside0.mk (bytes_next hC hle (by simp))
      have HL := Aside0.mk (show l.length + 1 ≤ c from hle)
      clear hC hle hbd hne hn
      by_cases hc1 : c = 1
      · subst hc1
        have HE := Aside0.mk (HD1.out (some ad) 0 (by show l.length ≤ 0; have := HL.out; omega) (by have := HC.out; rw [if_pos rfl] at this; exact this))
        go_enter Try.func105, Try.ntmps105
        go_wp2
        go_ret
        exact ⟨rfl, HE.out, (Below.refl _ _).setCell HP.out.2 _, (KeepBut.refl _ _ _).set_ _ _⟩
      · have hl1 : l.length + 1 ≤ c := HL.out
        have HE := Aside0.mk (HD1.out (some ⟨ad.block, ad.off + 1, none⟩) (c - 1) (by show l.length ≤ c - 1; have := HL.out; omega) (by
          have := HC.out
          rw [if_neg hc1] at this
          exact this))
        go_enter Try.func105, Try.ntmps105
        go_wp2
        go_ret
        exact ⟨rfl, HE.out, (Below.refl _ _).setCell HP.out.2 _, (KeepBut.refl _ _ _).set_ _ _⟩

/-! ### impl_newBinReader: function 72 (by hand) -/
theorem dec_code {w0 W : World} {r p : Nat} {bs : List Int} {lik : List Int} {code width : Int} {n : Nat} (h : DecAt w0 W r p bs ⟨lik, code, width, n⟩) (x : Int) : DecAt w0 (W.setCell ⟨r, 1, none⟩ (.int .i64 x)) r p bs ⟨lik, x, width, n⟩ := by
  obtain ⟨L, hB, A0, c0, G, h1, h2⟩ := h
  refine ⟨blk_far L (blk_ne L G (by decide)) _, hB, A0, c0, ?_, h1, h2⟩
  rw [blk_set G 1]
  rfl
theorem dec_width {w0 W : World} {r p : Nat} {bs : List Int} {lik : List Int} {code width : Int} {n : Nat} (h : DecAt w0 W r p bs ⟨lik, code, width, n⟩) (x : Int) : DecAt w0 (W.setCell ⟨r, 2, none⟩ (.int .i64 x)) r p bs ⟨lik, code, x, n⟩ := by
  obtain ⟨L, hB, A0, c0, G, h1, h2⟩ := h
  refine ⟨blk_far L (blk_ne L G (by decide)) _, hB, A0, c0, ?_, h1, h2⟩
  rw [blk_set G 2]
  rfl
theorem dec_lik {w0 W : World} {r p : Nat} {bs : List Int} {lik : List Int} {code width : Int} {n : Nat} (h : DecAt w0 W r p bs ⟨lik, code, width, n⟩) (i : Nat) (x : Int) : DecAt w0 (W.setCell ⟨p, i, none⟩ (.int .i64 x)) r p bs ⟨lik.set i x, code, width, n⟩ := by
  obtain ⟨L, hB, A0, c0, G, h1, h2⟩ := h
  exact ⟨lik_set L i x, hB, A0, c0, blk_far G (fun e => blk_ne L G (by decide) e.symm) _, h1, h2⟩
theorem dec_cells {w0 W : World} {r p : Nat} {bs : List Int} {lik : List Int} {code width : Int} {n : Nat} (h : DecAt w0 W r p bs ⟨lik, code, width, n⟩) :
    W.cell? ⟨r, 0, none⟩ = some (.pointer (some ⟨p, 0, none⟩)) ∧ W.cell? ⟨r, 1, none⟩ = some (.int .i64 code) ∧ W.cell? ⟨r, 2, none⟩ = some (.int .i64 width) ∧ W.frozen? ⟨r, 1, none⟩ = false ∧ W.frozen? ⟨r, 2, none⟩ = false ∧ r < W.heap.size ∧ p < W.heap.size ∧ w0.heap.size ≤ r ∧ w0.heap.size ≤ p := by
  obtain ⟨L, hB, A0, c0, G, h1, h2⟩ := h
  exact ⟨(blk_cell G 0).trans rfl, (blk_cell G 1).trans rfl, (blk_cell G 2).trans rfl, blk_frozen G 1, blk_frozen G 2, blk_lt G, blk_lt L, hB.2, hB.1⟩
theorem numAt_range {b : List Int} (h : BytesOk b) : ∀ k : Nat, 0 ≤ numAt b k ∧ numAt b k < 256 ^ k
  | 0 => by simp [numAt]
  | k + 1 => by
    have h1 := numAt_range h k
    have h2 := byteAt_range h k
    rw [pow_step]
    unfold numAt
    omega
theorem numAt_start {b : List Int} : (⟨likL, numAt b 4, 4294967295, 4⟩ : Dec) = startD b := by
  unfold startD
  congr 1
  simp only [numAt]
  omega
def GotReader (w0 : World) (bs : List Int) (e : Ending) (w' : World) : Prop := ∃ r p, e = .returned (.pointer (some ⟨r, 0, none⟩)) ∧ DecAt w0 w' r p bs (startD bs) ∧ Below w0.heap.size w0 w'
set_option maxHeartbeats 4000000 in
set_option maxRecDepth 100000 in
theorem iNewReader_calls (A : Option Addr) (c : Nat) (bs : List Int) (w0 W : World) (hr : Kd.C (Kd.int .u8) w0 A bs.length bs) (hl : bs.length ≤ c) (hb : Below w0.heap.size w0 W) (hbs : BytesOk bs) :
    Calls Try.prog 72 #[.slice A bs.length c] W (GotReader w0 bs) := by
  have HR := Aside0.mk hr
  have HL := Aside0.mk hl
  have HB := Aside0.mk hb
  have HBS := Aside0.mk hbs
  clear hr hl hb hbs
  go_enter Try.func72, Try.ntmps72
  go_wp2_with (go_at_call 98; (with_reducible refine (iNewLik_calls _).mono ?_); rintro e w1 ⟨p, rfl, hlk, hp, hb⟩; have HLK := Aside0.mk hlk; have HP := Aside0.mk hp; have HB1 := Aside0.mk (below_step HB.out hb); clear hlk hp hb)
  obtain ⟨W2, HW2⟩ : ∃ W2, Aside0 (W2 = w1.alloc (.cells #[.pointer (some ⟨p, 0, none⟩), .int .i64 0, .int .i64 4294967295, .slice A bs.length c] 114)) := ⟨_, ⟨rfl⟩⟩
  have HD := Aside0.mk (show DecAt w0 W2 w1.heap.size p bs ⟨likL, numAt bs 0, 4294967295, 0⟩ from by
    rw [HW2.out]
    have hb2 := below_alloc (Below.refl w1.heap.size w1) (.cells #[.pointer (some ⟨p, 0, none⟩), .int .i64 0, .int .i64 4294967295, .slice A bs.length c] 114)
    exact ⟨(hb2.block p (blk_lt HLK.out)).trans HLK.out, ⟨Nat.le_trans (below_size HB.out) HP.out, below_size HB1.out⟩, A, c, blk_new w1 _, HL.out, HR.out⟩)
  have HB2 := Aside0.mk (show Below w0.heap.size w0 W2 from by rw [HW2.out]; exact below_alloc HB1.out _)
  obtain ⟨r, HRR⟩ : ∃ r, Aside0 (r = w1.heap.size) := ⟨_, ⟨rfl⟩⟩
  rw [← HRR.out] at HD
  rw [← HW2.out, ← HRR.out]
  clear HW2 HB HB1 HLK HP HRR
  go_loopg [8] 4 (fun kq v8 w' => ∃ (k : Nat), v8 = .int .i64 (k : Int) ∧ Aside0 (k + kq = 4) ∧ Aside0 (DecAt w0 w' r p bs ⟨likL, numAt bs k, 4294967295, k⟩) ∧ Aside0 (Below w0.heap.size w0 w'))
  case atStart => exact ⟨0, rfl, ⟨rfl⟩, HD, HB2⟩
  case round =>
    clear HD HB2
    obtain ⟨k, rfl, HQ, HD, HB⟩ := hrel
    by_cases hk : k < 4
    · have hk2 : (k : Int) < 4 := by omega
      have hnr := numAt_range HBS.out k
      have hn1 : numAt bs k ≤ 16777215 := by
        obtain rfl | rfl | rfl | rfl : k = 0 ∨ k = 1 ∨ k = 2 ∨ k = 3 := by omega
        all_goals have := hnr.2; omega
      have hn0 : 0 ≤ numAt bs k := hnr.1
      have hby := byteAt_range HBS.out k
      have HNX := Aside0.mk (show numAt bs (k + 1) = numAt bs k * 256 + byteAt bs k from by show 256 * numAt bs k + byteAt bs k = _; omega)
      clear hnr
      obtain ⟨hb0, hb1⟩ := hby
      obtain ⟨h0, h1, h2, f1, f2, hrl, hpl, hr0, hp0⟩ := dec_cells HD.out
      generalize HM : numAt bs k = m at hn0 hn1 HNX HD h1
      generalize HY : byteAt bs k = y at hb0 hb1 HNX
      have HY2 := Aside0.mk HY
      clear HM HY
      go_wp2
      go_region_with (go_at_call 105; (with_reducible refine (iNext_calls r p bs likL m 4294967295 k w0 _ (dec_drew HD.out) (below_drew HB.out) HBS.out).mono ?_); rintro e W3 ⟨rfl, d3, b3, -⟩; rw [HY2.out]; have D3 := Aside0.mk d3; have B3 := Aside0.mk ((below_drew HB.out).trans b3); clear d3 b3; obtain ⟨g0, g1, g2, e1, e2, -, -, -, -⟩ := dec_cells D3.out)
      all_goals
        go_wp2
        go_roundg (4 - (k + 1))
        case measure => have := HQ.out; omega
        case rel => exact ⟨k + 1, by first | rfl | go_num | simp, ⟨by have := HQ.out; omega⟩, ⟨by rw [HNX.out]; exact dec_code D3.out _⟩, ⟨B3.out.setCell hr0 _⟩⟩
    · have hk2 : ¬ (k : Int) < 4 := by omega
      have e := HQ.out
      obtain rfl : k = 4 := by omega
      clear e
      go_wp2
      go_ret
      exact ⟨r, p, rfl, by rw [← numAt_start]; exact HD.out, HB.out⟩

/-! ### impl_binReader_bit: function 73 (by hand) -/
set_option maxHeartbeats 4000000 in
set_option maxRecDepth 100000 in
theorem iBit_calls (r p : Nat) (bs : List Int) (lik : List Int) (code width : Int) (n ctx : Nat) (w0 W : World) (h : DecAt w0 W r p bs ⟨lik, code, width, n⟩) (hs : DecOk ⟨lik, code, width, n⟩) (hc : ctx < 400) (hb : Below w0.heap.size w0 W) (hbs : BytesOk bs) :
    Calls Try.prog 73 #[.pointer (some ⟨r, 0, none⟩), .int .i64 ctx] W fun e w' => e = .returned (.int .i64 (bitD ⟨lik, code, width, n⟩ ctx)) ∧ DecAt w0 w' r p bs (stepD bs ⟨lik, code, width, n⟩ ctx) ∧ Below w0.heap.size w0 w' ∧ KeepBut W w' r (some p) := by
  have hc0 : 0 ≤ code := hs.c0
  have hc1 : code ≤ 4294967295 := hs.c1
  have hw0 : 16777216 ≤ width := hs.w0
  have hw1 : width ≤ 4294967295 := hs.w1
  have hlk : LikOk lik := hs.lik
  have hr := lik_rd hlk (c := (ctx : Int)) (by omega) (by omega)
  have hpr := partE_range hlk hw0 (ctx := (ctx : Int)) (by omega) (by omega)
  have HD0 := Aside0.mk h
  have HB := Aside0.mk hb
  have HBS := Aside0.mk hbs
  obtain ⟨hb0, hb1, hb2, hf1, hf2, hrl, hpl, hrB, hpB⟩ := dec_cells h
  have hcl := lik_cell h.1 ctx (show ctx < lik.length from by rw [hlk.1]; exact hc)
  replace hcl : W.cell? ⟨p, ctx, none⟩ = some (.int .i64 (rd lik (ctx : Int))) := hcl
  obtain ⟨x, HX⟩ : ∃ x, Aside0 (x = rd lik (ctx : Int)) := ⟨_, ⟨rfl⟩⟩
  rw [← HX.out] at hr hcl
  obtain ⟨pt, HPT⟩ : ∃ pt, Aside0 (pt = partE lik width (ctx : Int)) := ⟨_, ⟨rfl⟩⟩
  rw [← HPT.out] at hpr
  have hmul : wrap64 (width / 4096 * x) = pt := by
    have e : width / 4096 * x = pt := by rw [HPT.out, HX.out]; rfl
    rw [e]
    exact w64 (by omega) (by omega)
  have hmul2 : IntKind.i64.wrap (width / 4096 * x) = pt := (i64_w _).trans hmul
  obtain ⟨hr0, hr1⟩ := hr
  obtain ⟨hp0, hp1⟩ := hpr
  have HK := Aside0.mk hlk
  have hlt : (ctx : Int) < 400 := by omega
  clear hlk h hb hbs
  by_cases hcmp : code < pt
  · have HBD := Aside0.mk (show bitD ⟨lik, code, width, n⟩ ctx = 0 from by unfold bitD; simp only []; rw [← HPT.out, if_pos hcmp])
    have HCD := Aside0.mk (show codeD ⟨lik, code, width, n⟩ ctx = code from by unfold codeD; simp only []; rw [← HPT.out, if_pos hcmp])
    have HWD := Aside0.mk (show widthD ⟨lik, code, width, n⟩ ctx = pt from by unfold widthD; simp only []; rw [← HPT.out, if_pos hcmp])
    go_enter Try.func73, Try.ntmps73
    go_wp2
    go_quiet (fail)
    go_wp2_with fail
    obtain ⟨W1, HW1⟩ : ∃ W1, Aside0 (W1 = (W.drewN nq).setCell ⟨r, 2, none⟩ (.int .i64 pt)) := ⟨_, ⟨rfl⟩⟩
    have D1 := Aside0.mk (show DecAt w0 W1 r p bs ⟨lik, code, pt, n⟩ from by rw [HW1.out]; exact dec_width (dec_drewN HD0.out _) pt)
    have B1 := Aside0.mk (show Below w0.heap.size w0 W1 from by rw [HW1.out]; exact (pw_below_drewN HB.out _).setCell hrB _)
    have K1 := Aside0.mk (show KeepBut W W1 r (some p) from by rw [HW1.out]; exact (show KeepBut W (W.drewN nq) r (some p) from KeepBut.refl _ _ _).set_ _ _)
    rw [← HW1.out]
    clear HW1 hb1 hb2 hf1 hf2 hb0 hcl
    obtain ⟨hb0, hb1, hb2, hf1, hf2, hrl1, hpl1, -, -⟩ := dec_cells D1.out
    go_wp2_with fail
    refine (iLearn_calls p lik ctx 0 _ D1.out.1 HK.out hc).mono ?_
    rintro e w' ⟨rfl, ⟨nl, rfl⟩⟩
    obtain ⟨W2, HW2⟩ : ∃ W2, Aside0 (W2 = (W1.setCell ⟨p, ctx, none⟩ (.int .i64 (learnP (rd lik ctx) 0))).drewN nl) := ⟨_, ⟨rfl⟩⟩
    have D2 := Aside0.mk (show DecAt w0 W2 r p bs ⟨learnL lik ctx 0, code, pt, n⟩ from by rw [HW2.out]; exact dec_drewN (dec_lik D1.out ctx _) _)
    have B2 := Aside0.mk (show Below w0.heap.size w0 W2 from by rw [HW2.out]; exact pw_below_drewN (B1.out.setCell hpB _) _)
    have K2 := Aside0.mk (show KeepBut W W2 r (some p) from by rw [HW2.out]; exact keep_row K1.out _ _)
    rw [← HW2.out]
    clear HW2 hb0 hb1 hb2 hf1 hf2 D1 B1 K1
    go_wp2
    obtain ⟨hb0, hb1, hb2, hf1, hf2, hrl2, hpl2, -, -⟩ := dec_cells D2.out
    by_cases hsm : pt < 16777216
    · have HE := Aside0.mk (show stepD bs ⟨lik, code, width, n⟩ ctx = ⟨learnL lik ctx 0, code % 16777216 * 256 + byteAt bs n, pt * 256, n + 1⟩ from by
        unfold stepD
        rw [HWD.out, HBD.out, HCD.out, if_pos hsm])
      have hby := byteAt_range HBS.out n
      obtain ⟨y, HY⟩ : ∃ y, Aside0 (byteAt bs n = y) := ⟨_, ⟨rfl⟩⟩
      rw [HY.out] at hby HE
      obtain ⟨hy0, hy1⟩ := hby
      have hq0 : 0 ≤ code % 16777216 := by omega
      have hq1 : code % 16777216 ≤ 16777215 := by omega
      have hq2 : 16777216 ≤ pt * 256 := by omega
      have hq3 : pt * 256 ≤ 4294967296 := by omega
      refine wp_loop_rounds 2 ?_
      rw [rounds_succ]
      go_wp2
      go_region_with (go_at_call 105; (with_reducible refine (iNext_calls r p bs (learnL lik ctx 0) (code) (pt) n w0 _ (dec_drew D2.out) (below_drew B2.out) HBS.out).mono ?_); rintro e W3 ⟨rfl, d3, b3, k3⟩; rw [HY.out]; have D3 := Aside0.mk d3; have K3 := Aside0.mk (KeepBut.trans (show KeepBut W W2.drew r (some p) from K2.out) k3 (.inl rfl)); clear k3; have B3 := Aside0.mk ((below_drew B2.out).trans b3); clear d3 b3; obtain ⟨g0, g1, g2, e1, e2, -, -, -, -⟩ := dec_cells D3.out)
      all_goals
        go_wp2
        rw [rounds_succ]
        go_wp2
        go_ret
        exact ⟨by rw [HBD.out] <;> rfl, by rw [HE.out]; exact dec_width (dec_code D3.out _) _, (B3.out.setCell hrB _).setCell hrB _, (K3.out.set_ _ _).set_ _ _⟩
    · have HE := Aside0.mk (show stepD bs ⟨lik, code, width, n⟩ ctx = ⟨learnL lik ctx 0, code, pt, n⟩ from by
        unfold stepD
        rw [HWD.out, HBD.out, HCD.out, if_neg hsm])
      have hq2 : 16777216 ≤ pt := by omega
      refine wp_loop_rounds 1 ?_
      rw [rounds_succ]
      go_wp2
      go_ret
      exact ⟨by rw [HBD.out] <;> rfl, by rw [HE.out]; exact D2.out, B2.out, K2.out⟩
  · have HBD := Aside0.mk (show bitD ⟨lik, code, width, n⟩ ctx = 1 from by unfold bitD; simp only []; rw [← HPT.out, if_neg hcmp])
    have HCD := Aside0.mk (show codeD ⟨lik, code, width, n⟩ ctx = code - pt from by unfold codeD; simp only []; rw [← HPT.out, if_neg hcmp])
    have HWD := Aside0.mk (show widthD ⟨lik, code, width, n⟩ ctx = width - pt from by unfold widthD; simp only []; rw [← HPT.out, if_neg hcmp])
    have hge : pt ≤ code := by omega
    go_enter Try.func73, Try.ntmps73
    go_wp2
    go_quiet (fail)
    go_wp2_with fail
    go_region
    go_wp2_with fail
    obtain ⟨W1, HW1⟩ : ∃ W1, Aside0 (W1 = ((W.drewN (nq + 1)).setCell ⟨r, 1, none⟩ (.int .i64 (code - pt))).setCell ⟨r, 2, none⟩ (.int .i64 (width - pt))) := ⟨_, ⟨rfl⟩⟩
    have D1 := Aside0.mk (show DecAt w0 W1 r p bs ⟨lik, (code - pt), (width - pt), n⟩ from by rw [HW1.out]; exact dec_width (dec_code (dec_drewN HD0.out _) _) _)
    have B1 := Aside0.mk (show Below w0.heap.size w0 W1 from by rw [HW1.out]; exact ((pw_below_drewN HB.out _).setCell hrB _).setCell hrB _)
    have K1 := Aside0.mk (show KeepBut W W1 r (some p) from by rw [HW1.out]; exact ((show KeepBut W (W.drewN (nq + 1)) r (some p) from KeepBut.refl _ _ _).set_ _ _).set_ _ _)
    rw [← HW1.out]
    clear HW1 hb1 hb2 hf1 hf2 hb0 hcl
    obtain ⟨hb0, hb1, hb2, hf1, hf2, hrl1, hpl1, -, -⟩ := dec_cells D1.out
    go_wp2_with fail
    refine (iLearn_calls p lik ctx 1 _ D1.out.1 HK.out hc).mono ?_
    rintro e w' ⟨rfl, ⟨nl, rfl⟩⟩
    obtain ⟨W2, HW2⟩ : ∃ W2, Aside0 (W2 = (W1.setCell ⟨p, ctx, none⟩ (.int .i64 (learnP (rd lik ctx) 1))).drewN nl) := ⟨_, ⟨rfl⟩⟩
    have D2 := Aside0.mk (show DecAt w0 W2 r p bs ⟨learnL lik ctx 1, (code - pt), (width - pt), n⟩ from by rw [HW2.out]; exact dec_drewN (dec_lik D1.out ctx _) _)
    have B2 := Aside0.mk (show Below w0.heap.size w0 W2 from by rw [HW2.out]; exact pw_below_drewN (B1.out.setCell hpB _) _)
    have K2 := Aside0.mk (show KeepBut W W2 r (some p) from by rw [HW2.out]; exact keep_row K1.out _ _)
    rw [← HW2.out]
    clear HW2 hb0 hb1 hb2 hf1 hf2 D1 B1 K1
    go_wp2
    obtain ⟨hb0, hb1, hb2, hf1, hf2, hrl2, hpl2, -, -⟩ := dec_cells D2.out
    by_cases hsm : (width - pt) < 16777216
    · have HE := Aside0.mk (show stepD bs ⟨lik, code, width, n⟩ ctx = ⟨learnL lik ctx 1, (code - pt) % 16777216 * 256 + byteAt bs n, (width - pt) * 256, n + 1⟩ from by
        unfold stepD
        rw [HWD.out, HBD.out, HCD.out, if_pos hsm])
      have hby := byteAt_range HBS.out n
      obtain ⟨y, HY⟩ : ∃ y, Aside0 (byteAt bs n = y) := ⟨_, ⟨rfl⟩⟩
      rw [HY.out] at hby HE
      obtain ⟨hy0, hy1⟩ := hby
      have hq0 : 0 ≤ (code - pt) % 16777216 := by omega
      have hq1 : (code - pt) % 16777216 ≤ 16777215 := by omega
      have hq2 : 16777216 ≤ (width - pt) * 256 := by omega
      have hq3 : (width - pt) * 256 ≤ 4294967296 := by omega
      refine wp_loop_rounds 2 ?_
      rw [rounds_succ]
      go_wp2
      go_region_with (go_at_call 105; (with_reducible refine (iNext_calls r p bs (learnL lik ctx 1) ((code - pt)) ((width - pt)) n w0 _ (dec_drew D2.out) (below_drew B2.out) HBS.out).mono ?_); rintro e W3 ⟨rfl, d3, b3, k3⟩; rw [HY.out]; have D3 := Aside0.mk d3; have K3 := Aside0.mk (KeepBut.trans (show KeepBut W W2.drew r (some p) from K2.out) k3 (.inl rfl)); clear k3; have B3 := Aside0.mk ((below_drew B2.out).trans b3); clear d3 b3; obtain ⟨g0, g1, g2, e1, e2, -, -, -, -⟩ := dec_cells D3.out)
      all_goals
        go_wp2
        rw [rounds_succ]
        go_wp2
        go_ret
        exact ⟨by rw [HBD.out] <;> rfl, by rw [HE.out]; exact dec_width (dec_code D3.out _) _, (B3.out.setCell hrB _).setCell hrB _, (K3.out.set_ _ _).set_ _ _⟩
    · have HE := Aside0.mk (show stepD bs ⟨lik, code, width, n⟩ ctx = ⟨learnL lik ctx 1, (code - pt), (width - pt), n⟩ from by
        unfold stepD
        rw [HWD.out, HBD.out, HCD.out, if_neg hsm])
      have hq2 : 16777216 ≤ (width - pt) := by omega
      refine wp_loop_rounds 1 ?_
      rw [rounds_succ]
      go_wp2
      go_ret
      exact ⟨by rw [HBD.out] <;> rfl, by rw [HE.out]; exact D2.out, B2.out, K2.out⟩
theorem bitsD_snoc (b : List Int) : ∀ (l : List Int) (s : Dec) (c : Int), bitsD b s (l ++ [c]) = bitsD b s l ++ [bitD (l.foldl (stepD b) s) c]
  | [], s, c => rfl
  | x :: l, s, c => by
    show bitD s x :: bitsD b (stepD b s x) (l ++ [c]) = _
    rw [bitsD_snoc b l]
    rfl
def stK (b l : List Int) (k : Nat) : Dec := (l.take k).foldl (stepD b) (startD b)
def outK (b l : List Int) (k : Nat) : List Int := bitsD b (startD b) (l.take k)
theorem stK_succ (b l : List Int) {k : Nat} (hk : k < l.length) : stK b l (k + 1) = stepD b (stK b l k) l[k] := by
  unfold stK
  rw [List.take_succ_eq_append_getElem hk, List.foldl_append]
  rfl
theorem outK_succ (b l : List Int) {k : Nat} (hk : k < l.length) : outK b l (k + 1) = outK b l k ++ [bitD (stK b l k) l[k]] := by
  unfold outK stK
  rw [List.take_succ_eq_append_getElem hk, bitsD_snoc]
theorem outK_length (b l : List Int) (k : Nat) (hk : k ≤ l.length) : (outK b l k).length = k := by
  unfold outK
  rw [bitsD_length, List.length_take]
  omega
theorem stK_ok {b : List Int} (hb : BytesOk b) (l : List Int) (hl : ∀ x ∈ l, 0 ≤ x ∧ x < 400) : ∀ k : Nat, k ≤ l.length → DecOk (stK b l k) ∧ (stK b l k).at_ ≤ k + 4
  | 0, _ => ⟨startD_ok hb, Nat.le_refl _⟩
  | k + 1, hk => by
    have ih := stK_ok hb l hl k (by omega)
    have hx := hl _ (List.getElem_mem (show k < l.length by omega))
    rw [stK_succ b l (by omega)]
    exact ⟨stepD_ok hb ih.1 hx.1 hx.2, Nat.le_trans (stepD_at b (stK b l k) l[k]).2 (by omega)⟩
def bytesB (l : List Int) : Bool := l.all fun x => decide (0 ≤ x) && decide (x ≤ 255)
theorem bytesB_ok {l : List Int} (h : bytesB l = true) : BytesOk l := fun x hx => by
  have := List.all_eq_true.1 h x hx
  simpa using this
def decodeI (b l : List Int) : List Int := if decide (l.length ≤ 200000) && allR l 0 399 then decL b l else []
theorem within_of {l : List Int} (h : allR l 0 399 = true) : ∀ x ∈ l, 0 ≤ x ∧ x < 400 := fun x hx => by
  have := List.all_eq_true.1 h x hx
  rw [inR_iff] at this
  omega
theorem lit_ints {w W : World} (hb : Below w.heap.size w W) (e r p : Nat) (h : W.heap.size ≠ r ∧ W.heap.size ≠ p) : Kd.R (Kd.int .i64) e (W.alloc (.cells #[] e)) w.heap.size (fun j => j ≠ r ∧ j ≠ p) (.slice (some ⟨W.heap.size, 0, none⟩) 0 0) [] := by
  have := World.ownsRow_lit (base := w.heap.size) (e := e) (size := 1) W #[] 0 hb.size (by decide) (by simp)
  exact ⟨fun k hk => by injection hk with hk; subst hk; exact h, [], this, Reps.none _ _⟩
theorem dec_grown {w0 W W1 : World} {r p : Nat} {bs : List Int} {s : Dec} {B : Nat} {ok : Nat → Prop} {v : Value} {ys : List Int} (h : DecAt w0 W r p bs s) (hR : Kd.R (Kd.int .i64) 3 W B ok v ys) (hg : W.grownBy W1 v.ownBlock) : DecAt w0 W1 r p bs s := by
  obtain ⟨L, hB, A, c, G, h1, h2⟩ := h
  exact ⟨blk_grown L hg (Kd.R_ne hR L (by decide)), hB, A, c, blk_grown G hg (Kd.R_ne hR G (by decide)), h1, h2⟩
theorem out_keep {W W1 : World} {r p e B : Nat} {v : Value} {ys : List Int} (h : Kd.R (Kd.int .i64) e W B (fun j => j ≠ r ∧ j ≠ p) v ys) (hk : KeepBut W W1 r (some p)) : Kd.R (Kd.int .i64) e W1 B (fun j => j ≠ r ∧ j ≠ p) v ys :=
  Kd.R_step h (fun k ho hlt => hk.2 k hlt ho.1 (fun e => ho.2 (Option.some.inj e)))
theorem dec_alloc {w0 W : World} {r p : Nat} {bs : List Int} {s : Dec} (h : DecAt w0 W r p bs s) (o : Obj) : DecAt w0 (W.alloc o) r p bs s := by
  have hb := below_alloc (Below.refl W.heap.size W) o
  obtain ⟨L, hB, A, c, G, h1, h2⟩ := h
  exact ⟨(hb.block p (blk_lt L)).trans L, hB, A, c, (hb.block r (blk_lt G)).trans G, h1, h2⟩
theorem dec_fresh {w0 W : World} {r p : Nat} {bs : List Int} {s : Dec} (h : DecAt w0 W r p bs s) : W.heap.size ≠ r ∧ W.heap.size ≠ p := by
  obtain ⟨L, hB, A, c, G, h1, h2⟩ := h
  have := blk_lt L
  have := blk_lt G
  omega
theorem dec_above {w0 W : World} {r p : Nat} {bs : List Int} {s : Dec} (h : DecAt w0 W r p bs s) : ∀ k, W.heap.size ≤ k → k ≠ r ∧ k ≠ p := by
  obtain ⟨L, hB, A, c, G, h1, h2⟩ := h
  have := blk_lt L
  have := blk_lt G
  omega

/-! ### impl_DecodeBins: function 28 (by hand) -/
def impl_DecodeBins.f (l0 l1 : List Int) : Option (List Int) := if bytesB l0 = true ∧ l0.length ≤ 4611686018427387904 ∧ l1.length ≤ 4611686018427387904 then some (decodeI l0 l1) else none
set_option maxHeartbeats 4000000 in
set_option maxRecDepth 100000 in
theorem impl_DecodeBins.calls (A0 : Option Addr) (c0 : Nat) (l0 : List Int) (A1 : Option Addr) (c1 : Nat) (l1 : List Int) (r : List Int) (w : World) (hr0 : Kd.C (Kd.int .u8) w A0 l0.length l0) (hc0 : l0.length ≤ c0) (hr1 : Kd.C (Kd.int .i64) w A1 l1.length l1) (hc1 : l1.length ≤ c1) (h : impl_DecodeBins.f l0 l1 = some r) :
    Calls Try.prog 28 #[.slice A0 l0.length c0, .slice A1 l1.length c1] w fun e w' => ∃ v0_ : Value, e = .returned (v0_) ∧ Kd.R (Kd.int .i64) 3 w' w.heap.size (fun _ => True) v0_ r ∧ Below w.heap.size w w' := by
  unfold impl_DecodeBins.f at h
  by_cases hl : bytesB l0 = true ∧ l0.length ≤ 4611686018427387904 ∧ l1.length ≤ 4611686018427387904
  · rw [if_pos hl] at h
    obtain rfl := Option.some.inj h
    clear h
    have HBS := Aside0.mk (bytesB_ok hl.1)
    obtain ⟨k, hk⟩ := (allWithin_f l1 0 399 (by unfold maxLen; omega)).rounds
    have HA := Aside0.mk (impl_allWithin.calls k A1 c1 l1 0 399 _ w hr1 hc1 hk)
    have HR0 := Aside0.mk hr0
    have HR1 := Aside0.mk hr1
    have HC0 := Aside0.mk hc0
    have hd0 : l0.length ≤ 4611686018427387904 := hl.2.1
    have hd1 : l1.length ≤ 4611686018427387904 := hl.2.2
    clear hr0 hr1 hc0 hc1 hk hl k
    by_cases h2 : l1.length ≤ 200000
    · have d2 : ¬ 200000 < (l1.length : Int) := by omega
      by_cases ha : allR l1 0 399 = true
      · have HE := Aside0.mk (show decodeI l0 l1 = outK l0 l1 l1.length from by unfold decodeI outK; rw [ha, decide_eq_true h2, List.take_length]; rfl)
        have HW := Aside0.mk (within_of ha)
        rw [HE.out]
        rw [ha] at HA
        clear HE ha
        go_enter Try.func28, Try.ntmps28
        go_wp2_with (first
          | (go_at_call 71; (with_reducible refine HA.out.mono ?_); rintro e w1 ⟨rfl, hb1⟩; have HB := Aside0.mk hb1.below; clear hb1)
          | (go_at_call 72; (with_reducible refine (iNewReader_calls A0 c0 l0 _ _ (Kd.C_below HR0.out HB.out) HC0.out (Below.refl _ _) HBS.out).mono ?_); rintro e W2 ⟨r, p, rfl, hd, hb2⟩; have HD0 := Aside0.mk hd; have HB0 := Aside0.mk hb2; clear hd hb2))
        obtain ⟨W3, HW3⟩ : ∃ W3, Aside0 (W3 = W2.alloc (.cells #[] 3)) := ⟨_, ⟨rfl⟩⟩
        have HBW := Aside0.mk (show Below w.heap.size w W3 from by rw [HW3.out]; exact below_alloc (below_step HB.out HB0.out) _)
        have HB3 := Aside0.mk (show Below w1.heap.size w1 W3 from by rw [HW3.out]; exact below_alloc HB0.out _)
        have HD3 := Aside0.mk (show DecAt w1 W3 r p l0 (stK l0 l1 0) from by rw [HW3.out]; exact dec_alloc HD0.out _)
        have HO3 := Aside0.mk (show Kd.R (Kd.int .i64) 3 W3 w1.heap.size (fun j => j ≠ r ∧ j ≠ p) (.slice (some ⟨W2.heap.size, 0, none⟩) 0 0) (outK l0 l1 0) from by rw [HW3.out]; exact lit_ints HB0.out _ _ _ (dec_fresh HD0.out))
        rw [← HW3.out]
        clear HW3 HD0 HB0
        go_loopg [6, 22] l1.length (fun kq v6 v22 w' => ∃ (k : Nat), v22 = .int .i64 (k : Int) ∧ Aside0 (k + kq = l1.length) ∧ Aside0 (DecAt w1 w' r p l0 (stK l0 l1 k)) ∧ Aside0 (Kd.R (Kd.int .i64) 3 w' w1.heap.size (fun j => j ≠ r ∧ j ≠ p) v6 (outK l0 l1 k)) ∧ Aside0 (Below w1.heap.size w1 w') ∧ Aside0 (Below w.heap.size w w'))
        case atStart => exact ⟨0, rfl, ⟨by omega⟩, HD3, HO3, HB3, HBW⟩
        case round =>
          clear HD3 HO3 HB3 HBW
          obtain ⟨k, rfl, HQ, HD, HO, HBB, HBW⟩ := hrel
          by_cases hk : k < l1.length
          · have hki : (k : Int) < (l1.length : Int) := by omega
            obtain ⟨ad, rfl, hx⟩ := Kd.at_int HR1.out (k : Int) (by omega) hki
            rw [rd_nat hk, Int.toNat_natCast] at hx
            replace hx := pw_cell_below HBW.out hx
            have hxw := HW.out _ (List.getElem_mem hk)
            have hst := stK_ok HBS.out l1 HW.out k (by omega)
            have HT := Aside0.mk (outK_succ l0 l1 hk)
            have HS := Aside0.mk (stK_succ l0 l1 hk)
            have HLN := Aside0.mk (outK_length l0 l1 k (by omega))
            obtain ⟨ctx, HC⟩ := Int.eq_ofNat_of_zero_le hxw.1
            rw [HC] at hx hxw HT HS
            have hc : ctx < 400 := by omega
            clear HC hxw
            generalize stK l0 l1 k = s at HD hst HT HS
            obtain ⟨lik, code, width, n⟩ := s
            have HST := Aside0.mk hst.1
            have hn := hst.2
            clear hst
            go_wp2_with (first
              | (go_at_call 73; (with_reducible refine (iBit_calls r p l0 lik code width n ctx w1 _ HD.out HST.out hc HBB.out HBS.out).mono ?_); rintro e W4 ⟨rfl, d4, b4, k4⟩; have HO4 := Aside0.mk (out_keep HO.out k4); have HD4 := Aside0.mk d4; have HB4 := Aside0.mk b4; clear d4 b4 k4)
              | ((with_reducible refine gate_builtin (b := .append) (xs := #[.tmp 26, .tmp 30]) rfl ?_); at_builtin; refine Kd.R_append (Kd.int .i64) (w0 := w1) w1.heap.size rfl (.tmp 26) (.tmp 30) 34 3 (.int .i64 0) 8 rfl Try.underlying34 info3 rfl (by decide) (by omega) u6 (outK l0 l1 k) (bitD ⟨lik, code, width, n⟩ ctx) [.int .i64 (bitD ⟨lik, code, width, n⟩ ctx)] (fun j => j ≠ r ∧ j ≠ p) (fun _ => False) rfl rfl ?aP (fun _ hk => hk.elim) ?aF ?aO ?aB ?aS ?aL ?_; (case aP => exact rfl); (case aF => exact dec_above HD4.out); (case aO => exact HO4.out); (case aB => exact HB4.out); (case aS => exact HB4.out.size); (case aL => rw [HLN.out]; omega); intro v1 w5 ho hb hg hat; have HD5 := Aside0.mk (dec_grown HD4.out HO4.out hg); have HO5 := Aside0.mk ho; have HB5 := Aside0.mk hb; clear ho hb hg hat))
            go_roundg (l1.length - (k + 1))
            case measure => have := HQ.out; omega
            case rel => exact ⟨k + 1, by first | rfl | go_num | simp, ⟨by have := HQ.out; omega⟩, ⟨by rw [HS.out]; exact HD5.out⟩, ⟨by rw [HT.out]; exact HO5.out⟩, HB5, ⟨below_step HB.out HB5.out⟩⟩
          · have hki : ¬ (k : Int) < (l1.length : Int) := by omega
            have e := HQ.out
            obtain rfl : k = l1.length := by omega
            clear e
            go_wp2
            go_ret
            exact ⟨_, rfl, Kd.R_lower (Kd.R_mono HO.out (fun _ _ => trivial)) (below_size HB.out), HBW.out⟩
      · have HE := Aside0.mk (show decodeI l0 l1 = [] from by unfold decodeI; rw [Bool.eq_false_iff.2 ha, Bool.and_false]; rfl)
        rw [HE.out]
        rw [Bool.eq_false_iff.2 ha] at HA
        clear HE ha
        go_enter Try.func28, Try.ntmps28
        go_wp2_with (first
          | (go_at_call 71; (with_reducible refine HA.out.mono ?_); rintro e w1 ⟨rfl, hb1⟩; have HB := Aside0.mk hb1.below; clear hb1))
        go_ret
        exact ⟨_, rfl, Kd.R_nil _ _ _ _ _, HB.out⟩
    · have d2 : 200000 < (l1.length : Int) := by omega
      have HE := Aside0.mk (show decodeI l0 l1 = [] from by unfold decodeI; rw [decide_eq_false h2, Bool.false_and]; rfl)
      rw [HE.out]
      clear HE HA h2
      go_enter Try.func28, Try.ntmps28
      go_wp2
      go_ret
      exact ⟨_, rfl, Kd.R_nil _ _ _ _ _, by repeat (first | exact Below.refl _ _ | apply pw_below_drewN | apply below_drew)⟩
  · rw [if_neg hl] at h
    cases h

/-- A state of type 116 at block g of W; what its slices lead to came in by w0. -/
def IsS116 (w0 W : World) (g : Nat) (f0 : List Int) (f1 : Int) (f2 : Int) : Prop := ∃ A0 c0, W.heap[g]? = some (.cells #[.slice A0 f0.length c0, .int .i64 f1, .int .i64 f2] 116 (0, 0)) ∧ w0.heap.size ≤ g ∧ Kd.C (Kd.int .u8) w0 A0 f0.length f0
theorem IsS116.grown {w0 W : World} {g : Nat} {f0 : List Int} {f1 : Int} {f2 : Int} {W1 : World} {row : Option Nat} (h : IsS116 w0 W g f0 f1 f2) (hw : W.grownBy W1 row) (hne : some g ≠ row) : IsS116 w0 W1 g f0 f1 f2 := by
  obtain ⟨A0, c0, hb, hg, hr0⟩ := h
  exact ⟨A0, c0, blk_grown hb hw hne, hg, hr0⟩
theorem IsS116.own_neN {w0 W : World} {g : Nat} {f0 : List Int} {f1 : Int} {f2 : Int} {α : Type} {d : Kd α} {e : Nat} {base : Nat} {ok : Nat → Prop} {v : Value} {xs : List α} (h : IsS116 w0 W g f0 f1 f2) (ho : Kd.N d e W base ok v xs) (ht : e ≠ 116) : some g ≠ v.ownBlock := by
  obtain ⟨A0, c0, hb, hg, hr0⟩ := h
  exact Kd.N_ne ho hb ht
theorem IsS116.fresh {w0 W : World} {g : Nat} {f0 : List Int} {f1 : Int} {f2 : Int} (h : IsS116 w0 W g f0 f1 f2) : ∀ k, W.heap.size ≤ k → k ≠ g := by
  obtain ⟨A0, c0, hb, hg, hr0⟩ := h
  exact Kd.freshB hb
theorem IsS116.kept {w0 W : World} {g : Nat} {f0 : List Int} {f1 : Int} {f2 : Int} {W1 : World} {S : Nat → Prop} (h : IsS116 w0 W g f0 f1 f2) (hk : Kept W W1 S) (hne : ¬ S g) : IsS116 w0 W1 g f0 f1 f2 := by
  obtain ⟨A0, c0, hb, hg, hr0⟩ := h
  exact ⟨A0, c0, blk_kept hb hk hne, hg, hr0⟩
theorem IsS116.below {w0 W : World} {g : Nat} {f0 : List Int} {f1 : Int} {f2 : Int} {W1 : World} (h : IsS116 w0 W g f0 f1 f2) (hw : Below W.heap.size W W1) : IsS116 w0 W1 g f0 f1 f2 := h.grown (grown_of_below hw none) (by simp)
theorem IsS116.alloc {w0 W : World} {g : Nat} {f0 : List Int} {f1 : Int} {f2 : Int} (h : IsS116 w0 W g f0 f1 f2) (o : Obj) : IsS116 w0 (W.alloc o) g f0 f1 f2 := h.below (below_alloc (Below.refl _ _) o)
theorem IsS116.drewN {w0 W : World} {g : Nat} {f0 : List Int} {f1 : Int} {f2 : Int} (h : IsS116 w0 W g f0 f1 f2) (m : Nat) : IsS116 w0 (W.drewN m) g f0 f1 f2 := h
theorem IsS116.drew {w0 W : World} {g : Nat} {f0 : List Int} {f1 : Int} {f2 : Int} (h : IsS116 w0 W g f0 f1 f2) : IsS116 w0 W.drew g f0 f1 f2 := h
theorem IsS116.at_ {w0 W : World} {g : Nat} {f0 : List Int} {f1 : Int} {f2 : Int} {w' : World} {m : Nat} (hq : W.drewN m = w') (h : IsS116 w0 W g f0 f1 f2) : IsS116 w0 w' g f0 f1 f2 := by subst hq; exact IsS116.drewN h m
theorem IsS116.apart {w0 W : World} {g : Nat} {f0 : List Int} {f1 : Int} {f2 : Int} {α : Type} {d : Kd α} {e : Nat} {base : Nat} {ok : Nat → Prop} {v : Value} {xs : List α} (h : IsS116 w0 W g f0 f1 f2) (ho : d.R e W base ok v xs) (ht : ∀ q, q ∈ e :: d.E → q ≠ 116) : d.R e W base (fun k => ok k ∧ k ≠ g) v xs := by
  obtain ⟨A0, c0, hb, hg, hr0⟩ := h
  exact Kd.R_types ho hb ht
theorem IsS116.own_ne {w0 W : World} {g : Nat} {f0 : List Int} {f1 : Int} {f2 : Int} {α : Type} {d : Kd α} {e : Nat} {base : Nat} {ok : Nat → Prop} {v : Value} {xs : List α} (h : IsS116 w0 W g f0 f1 f2) (ho : d.R e W base ok v xs) (ht : e ≠ 116) : some g ≠ v.ownBlock := by
  obtain ⟨A0, c0, hb, hg, hr0⟩ := h
  exact Kd.R_ne ho hb ht
theorem IsS116.apartQ {w0 W : World} {g : Nat} {f0 : List Int} {f1 : Int} {f2 : Int} {α : Type} {d : Kd α} {e : Nat} {base : Nat} {ok : Nat → Prop} {v : Value} {xs : List α} (h : IsS116 w0 W g f0 f1 f2) (ho : d.Q e W base ok v xs) (ht : ∀ q, q ∈ e :: d.E → q ≠ 116) : d.Q e W base (fun k => ok k ∧ k ≠ g) v xs := by
  obtain ⟨A0, c0, hb, hg, hr0⟩ := h
  exact Kd.Q_types ho hb ht
theorem IsS116.own_neQ {w0 W : World} {g : Nat} {f0 : List Int} {f1 : Int} {f2 : Int} {α : Type} {d : Kd α} {e : Nat} {base : Nat} {ok : Nat → Prop} {v : Value} {xs : List α} (h : IsS116 w0 W g f0 f1 f2) (ho : d.Q e W base ok v xs) (ht : e ≠ 116) : some g ≠ v.ownBlock := by
  obtain ⟨A0, c0, hb, hg, hr0⟩ := h
  exact Kd.Q_ne ho hb ht
theorem IsS116.apartS {w0 W : World} {g : Nat} {f0 : List Int} {f1 : Int} {f2 : Int} {α : Type} {d : Kd α} {e : Nat} {base : Nat} {ok : Nat → Prop} {v : Value} {xs : List α} (h : IsS116 w0 W g f0 f1 f2) (ho : d.S e W base ok v xs) (ht : ∀ q, q ∈ e :: d.E → q ≠ 116) : d.S e W base (fun k => ok k ∧ k ≠ g) v xs := by
  obtain ⟨A0, c0, hb, hg, hr0⟩ := h
  exact Kd.S_types ho hb ht
theorem IsS116.own_neS {w0 W : World} {g : Nat} {f0 : List Int} {f1 : Int} {f2 : Int} {α : Type} {d : Kd α} {e : Nat} {base : Nat} {ok : Nat → Prop} {v : Value} {xs : List α} (h : IsS116 w0 W g f0 f1 f2) (ho : d.S e W base ok v xs) (ht : e ≠ 116) : some g ≠ v.ownBlock := by
  obtain ⟨A0, c0, hb, hg, hr0⟩ := h
  exact Kd.S_ne ho hb ht
theorem IsS116.lt {w0 W : World} {g : Nat} {f0 : List Int} {f1 : Int} {f2 : Int} (h : IsS116 w0 W g f0 f1 f2) : g < W.heap.size := by
  obtain ⟨A0, c0, hb, hg, hr0⟩ := h
  exact blk_lt hb
theorem IsS116.ge {w0 W : World} {g : Nat} {f0 : List Int} {f1 : Int} {f2 : Int} (h : IsS116 w0 W g f0 f1 f2) : w0.heap.size ≤ g := by
  obtain ⟨A0, c0, hb, hg, hr0⟩ := h
  exact hg
theorem IsS116.ne_blk {w0 W : World} {g : Nat} {f0 : List Int} {f1 : Int} {f2 : Int} {a : Nat} {cs : Array Value} {t : TypeId} {fr : Nat × Nat} (h : IsS116 w0 W g f0 f1 f2) (hb2 : W.heap[a]? = some (.cells cs t fr)) (ht : t ≠ 116) : g ≠ a := by
  obtain ⟨A0, c0, hb, hg, hr0⟩ := h
  rintro rfl
  rw [hb] at hb2
  injection hb2 with hb2
  injection hb2 with _ ht2
  exact ht ht2.symm
theorem IsS116.far {w0 W : World} {g : Nat} {f0 : List Int} {f1 : Int} {f2 : Int} {p : Addr} (h : IsS116 w0 W g f0 f1 f2) (hne : g ≠ p.block) (u : Value) : IsS116 w0 (W.setCell p u) g f0 f1 f2 := by
  obtain ⟨A0, c0, hb, hg, hr0⟩ := h
  exact ⟨A0, c0, blk_far hb hne u, hg, hr0⟩
theorem cellS116_0 {W : World} {g : Nat} {A0 : Option Addr} {c0 : Nat} {f0 : List Int} {f1 : Int} {f2 : Int} (h : W.heap[g]? = some (.cells #[.slice A0 f0.length c0, .int .i64 f1, .int .i64 f2] 116 (0, 0))) : W.cell? ⟨g, 0, none⟩ = some (.slice A0 f0.length c0) := (blk_cell h 0).trans rfl
theorem cellS116_1 {W : World} {g : Nat} {A0 : Option Addr} {c0 : Nat} {f0 : List Int} {f1 : Int} {f2 : Int} (h : W.heap[g]? = some (.cells #[.slice A0 f0.length c0, .int .i64 f1, .int .i64 f2] 116 (0, 0))) : W.cell? ⟨g, 1, none⟩ = some (.int .i64 f1) := (blk_cell h 1).trans rfl
theorem IsS116.set_1 {w0 W : World} {g : Nat} {f0 : List Int} {f1 : Int} {f2 : Int} (h : IsS116 w0 W g f0 f1 f2) (x : Int) : IsS116 w0 (W.setCell ⟨g, 1, none⟩ (.int .i64 x)) g f0 x f2 := by
  obtain ⟨A0, c0, hb, hg, hr0⟩ := h
  exact ⟨A0, c0, by simpa using blk_set hb 1 (.int .i64 x), hg, hr0⟩
theorem cellS116_2 {W : World} {g : Nat} {A0 : Option Addr} {c0 : Nat} {f0 : List Int} {f1 : Int} {f2 : Int} (h : W.heap[g]? = some (.cells #[.slice A0 f0.length c0, .int .i64 f1, .int .i64 f2] 116 (0, 0))) : W.cell? ⟨g, 2, none⟩ = some (.int .i64 f2) := (blk_cell h 2).trans rfl
theorem IsS116.set_2 {w0 W : World} {g : Nat} {f0 : List Int} {f1 : Int} {f2 : Int} (h : IsS116 w0 W g f0 f1 f2) (x : Int) : IsS116 w0 (W.setCell ⟨g, 2, none⟩ (.int .i64 x)) g f0 f1 x := by
  obtain ⟨A0, c0, hb, hg, hr0⟩ := h
  exact ⟨A0, c0, by simpa using blk_set hb 2 (.int .i64 x), hg, hr0⟩
theorem IsS116.new (w0 W : World) (A0 : Option Addr) (c0 : Nat) (f0 : List Int) (f1 : Int) (f2 : Int) (hB : Below w0.heap.size w0 W) (hr0 : Kd.C (Kd.int .u8) w0 A0 f0.length f0) : IsS116 w0 (W.alloc (.cells #[.slice A0 f0.length c0, .int .i64 f1, .int .i64 f2] 116)) W.heap.size f0 f1 f2 := ⟨A0, c0, by simpa using heap_alloc_new W _, hB.size, hr0⟩

/-! ### spec_l01Open: function 78 -/
def spec_l01Open.f (l0 : List Int) : Option (List Int × Int × Int) := some (l0, 0, 13 + ((l0.length : Int) % 1000))
set_option maxHeartbeats 8000000 in
set_option maxRecDepth 100000 in
theorem spec_l01Open.calls (A0 : Option Addr) (c0 : Nat) (l0 : List Int) (r1 : List Int) (r2 : Int) (r3 : Int) (w0 w : World) (hB : Below w0.heap.size w0 w) (hr0 : Kd.C (Kd.int .u8) w0 A0 l0.length l0) (hc0 : l0.length ≤ c0) (h : spec_l01Open.f l0 = some (r1, r2, r3)) :
    Calls Try.prog 78 #[.slice A0 l0.length c0] w fun e w' => ∃ g_ : Nat, e = .returned (.pointer (some ⟨g_, 0, none⟩)) ∧ IsS116 w0 w' g_ r1 r2 r3 ∧ Below w0.heap.size w0 w' ∧ Below w.heap.size w w' := by
  have hu116 := Try.underlying116
  have HR0 := Aside0.mk hr0
  have HC0 := Aside0.mk hc0
  clear hr0 hc0
  have HBW := Aside0.mk (Below.refl w.heap.size w)
  have HW0 := Aside0.mk hB.size
  have HB := Aside0.mk hB
  clear hB
  have H : (some (l0, 0, 13 + ((l0.length : Int) % 1000))) = some (r1, r2, r3) := h
  clear h
  simp only [Option.some.injEq, Prod.mk.injEq] at H
  obtain ⟨rfl, rfl, rfl⟩ := H
  go_enter Try.func78, Try.ntmps78
  go_wp2_with (first | ((with_reducible refine gate_dst (N := 9) rfl ?_); refine box_event ?hg (N := 9) ?hd (cs := #[.slice A0 l0.length c0, .int .i64 0, .int .i64 (13 + ((l0.length : Int) % 1000))]) (t := 116) ?hr ?_; (case hd => rfl); (case hg => rfl); (case hr => first | (go_simp; done) | (go_simp; rfl)); intro gb110 hg w2 hbox hb; have n0_ := Aside0.mk (below_step HBW.out hb); have n1_ := Aside0.mk (below_step (by repeat (first | (with_reducible first | exact HB.out | apply below_alloc | apply pw_below_drewN | apply below_drew1) | exact HB.out)) hb); have n2_ := Aside0.mk (hbox); have n3_ := Aside0.mk ((by rw [hg]; exact (below_size (by repeat (first | (with_reducible first | exact HBW.out | apply below_alloc | apply pw_below_drewN | apply below_drew1) | exact HBW.out))) : w.heap.size ≤ gb110)); have n4_ := Aside0.mk ((Nat.le_trans HW0.out (by rw [hg]; exact (below_size (by repeat (first | (with_reducible first | exact HBW.out | apply below_alloc | apply pw_below_drewN | apply below_drew1) | exact HBW.out))) : w.heap.size ≤ gb110) : w0.heap.size ≤ gb110)); clear HBW; clear HB; have HBW := n0_; have HB := n1_; have BK110 := n2_; have GW110 := n3_; have GE110 := n4_; clear n0_ n1_ n2_ n3_ n4_; clear hb hbox hg))
  go_ret
  exact ⟨_, rfl, (show IsS116 w0 _ gb110 l0 0 (13 + ((l0.length : Int) % 1000)) from ⟨_, _, by (with_reducible repeat (first | refine blk_drewN ?_ _ | refine blk_drew ?_ | refine blk_alloc ?_ _)); exact BK110.out, GE110.out, HR0.out⟩), by repeat (first | (with_reducible first | exact HB.out | apply below_alloc | apply pw_below_drewN | apply below_drew1 | refine below_set ?_ GE110.out) | exact HB.out), by repeat (first | (with_reducible first | exact HBW.out | apply below_alloc | apply pw_below_drewN | apply below_drew1 | refine below_set ?_ GW110.out) | exact HBW.out)⟩

theorem open_f (code : List Int) (hc : CodeOk code) : EvP (fun _ => spec_l01Open.f code) (fun r => r.1 = code ∧ CurOk 0 r.2.1 r.2.2) := by
  unfold spec_l01Open.f
  exact evpNow rfl ⟨rfl, ⟨by simp, by simp, by simp only []; omega, by simp only []; omega⟩⟩

end Go.Proofs.Ytdeheflbigggbaa.CB
