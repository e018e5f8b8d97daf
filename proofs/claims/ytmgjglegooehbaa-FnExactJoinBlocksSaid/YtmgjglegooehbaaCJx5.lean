/- Functions that a law of this seat reaches: written by a program of this session (wip/xprint.py), and by hand. -/
import Derived.Test.YtmgjglegooehbaaCJx0
import Derived.Test.YtmgjglegooehbaaCJx1
import Derived.Test.YtmgjglegooehbaaCJx2
import Derived.Test.YtmgjglegooehbaaCJx3
import Derived.Test.YtmgjglegooehbaaCJx4
namespace Go.Proofs.Ytmgjglegooehbaa.CJ
open Go.RowKit Go.Proofs.Ytmgjglegooehbaa.B Go.Proofs.YtmgjglegooehbaaW.PrintWords Go.Proofs.YtmgjglegooehbaaW.PrintLast Go.Proofs.YtmgjglegooehbaaW.PrintMore
attribute [local go_sem] max2_int min2_int max_two min_two max_three min_three max_four min_four   -- for this text's walks alone
set_option linter.unusedVariables false
set_option linter.unusedSimpArgs false

theorem toIntSS_l0 (l : List (List Int)) (hl : l.length ≤ 1048576) (hx : ∀ x ∈ l, x.length ≤ 1048576) : ∀ (d i : Nat) (m : List (List Int)), i + d = l.length → m.length = l.length → m.take i = l.take i → Ev (fun k => laws_toIntSS.l0 k l m i) l := by
  intro d
  induction d with
  | zero =>
    intro i m hi hm ht
    refine Ev.step (fun k => by rw [laws_toIntSS.l0]) ?_
    rw [List.take_of_length_le (by omega), List.take_of_length_le (by omega)] at ht
    subst ht
    exact evNeg (by omega) (Ev.now _)
  | succ d ih =>
    intro i m hi hm ht
    have h1 : i < l.length := by omega
    refine Ev.step (fun k => by rw [laws_toIntSS.l0]) ?_
    refine evPos (by omega) (evPos (by omega) ?_)
    rw [rdSS_nat h1]
    refine evBind (toIntS_f _ (hx _ (List.getElem_mem h1))) (evPos (by omega) ?_)
    rw [w64 (by omega) (by omega), Int.toNat_natCast]
    refine ih (i + 1) _ (by omega) (by simp [hm]) ?_
    rw [List.take_succ_eq_append_getElem (by simp; omega), List.take_succ_eq_append_getElem h1, List.take_set_of_le (Nat.le_refl _), ht]
    simp
theorem toIntSS_f (l : List (List Int)) (hl : l.length ≤ 1048576) (hx : ∀ x ∈ l, x.length ≤ 1048576) : Ev (fun k => laws_toIntSS.f k l) l := by
  unfold laws_toIntSS.f
  refine evPos (by omega) (evPos (by omega) ?_)
  exact toIntSS_l0 l hl hx l.length 0 _ (by omega) (by simp) (by simp)

/-! ### laws_heldIntS: function 28 -/
def laws_heldIntS.l0 : Nat → List Int → Int → Int → Option (Int)
  | 0, _, _, _ => none
  | k + 1, x0, x1, x5 => if x5 < (x0.length : Int) then (if 0 ≤ x5 then (if (rd x0 x5) = x1 then (laws_heldIntS.l0 k x0 (wrap64 (x1 + 1)) (wrap64 (x5 + 1))) else (some (-1))) else (none)) else (some x1)
def laws_heldIntS.f (k : Nat) (l0 : List Int) (a1 : Int) : Option (Int) := laws_heldIntS.l0 k l0 a1 0
theorem laws_heldIntS.mono_l : ∀ k, (∀ y0 y1 y2, LeO (laws_heldIntS.l0 k y0 y1 y2) (laws_heldIntS.l0 (k + 1) y0 y1 y2))
  | 0 => fun _ _ _ r h => by simp [laws_heldIntS.l0] at h
  | k + 1 => by
    have ih0 := laws_heldIntS.mono_l k
    · intro y0 y1 y2
      unfold laws_heldIntS.l0
      repeat' first
      | (with_reducible exact ih0 _ _ _)
      | (with_reducible exact LeO.refl _)
      | (with_reducible exact LeO.none _)
      | (with_reducible refine LeO.ite ?_ ?_)
      | (with_reducible refine LeO.bind ?_ (fun _ => ?_))
      | exact ih0 _ _ _
      | exact LeO.none _
      | refine LeO.ite ?_ ?_
      | refine LeO.bind ?_ (fun _ => ?_)
theorem laws_heldIntS.mono : ∀ a0 a1 k, LeO (laws_heldIntS.f k a0 a1) (laws_heldIntS.f (k + 1) a0 a1) := by
  intro a0 a1 k
  have ih0 := laws_heldIntS.mono_l k
  unfold laws_heldIntS.f
  repeat' first
      | (with_reducible exact ih0 _ _ _)
      | (with_reducible exact LeO.refl _)
      | (with_reducible exact LeO.none _)
      | (with_reducible refine LeO.ite ?_ ?_)
      | (with_reducible refine LeO.bind ?_ (fun _ => ?_))
      | exact ih0 _ _ _
      | exact LeO.none _
      | refine LeO.ite ?_ ?_
      | refine LeO.bind ?_ (fun _ => ?_)
set_option maxHeartbeats 8000000 in
set_option maxRecDepth 100000 in
theorem laws_heldIntS.calls (k : Nat) (A0 : Option Addr) (c0 : Nat) (l0 : List Int) (a1 : Int) (r : Int) (w : World) (hr0 : Kd.C (Kd.int .i64) w A0 l0.length l0) (hc0 : l0.length ≤ c0) (h : laws_heldIntS.f k l0 a1 = some r) :
    Calls Try.prog 28 #[.slice A0 l0.length c0, .int .i64 a1] w fun e w' => e = .returned (.int .i64 r) ∧ Drawn0 w w' := by
  have HR0 := Aside0.mk hr0
  have HC0 := Aside0.mk hc0
  clear hr0 hc0
  have H : (laws_heldIntS.l0 k l0 a1 0) = some r := h
  clear h
  have H' := Aside0.mk H
  clear H
  go_enter Try.func28, Try.ntmps28
  go_wp2
  go_loopg [1, 5] k (fun kq v1 v5 w' => ∃ (x1_1 : Int) (x5_1 : Int), v1 = .int .i64 x1_1 ∧ v5 = .int .i64 x5_1 ∧ Aside0 (laws_heldIntS.l0 kq l0 x1_1 x5_1 = some r) ∧ Aside0 (kq ≤ k) ∧ Drawn0 w w')
  case atStart => exact ⟨(a1), (0), (by first | rfl | (simp; done) | (simp [*]; done)), (by first | rfl | (simp; done) | (simp [*]; done)), H', ⟨Nat.le_refl _⟩, by repeat (first | exact Drawn0.refl _ | apply Drawn0.step)⟩
  case round =>
    clear H'
    try clear c2
    try clear p2
    obtain ⟨x1_1, x5_1, rfl, rfl, HA, HK1, ⟨m1, rfl⟩⟩ := hrel
    cases gk with
    | zero => exact absurd HA.out (by simp [laws_heldIntS.l0])
    | succ k1 =>
      have H := HA.out
      clear HA
      simp only [laws_heldIntS.l0] at H
      by_cases c3 : x5_1 < (l0.length : Int)
      · rw [if_pos c3] at H
        have c3b0 : decide (x5_1 < (l0.length : Int)) = true := decide_eq_true c3
        clear c3
        by_cases c4 : 0 ≤ x5_1
        · rw [if_pos c4] at H
          have c4b0 : decide (0 ≤ x5_1) = true := decide_eq_true c4
          clear c4
          by_cases c5 : (rd l0 x5_1) = x1_1
          · rw [if_pos c5] at H
            have c5b0 : ((rd l0 x5_1) == x1_1) = true := beq_iff_eq.mpr c5
            have c5b1 : ((rd l0 x5_1) != x1_1) = false := bne_eq_false_iff_eq.mpr c5
            clear c5
            have H' := Aside0.mk H
            clear H
            have p152 : 0 ≤ (x5_1 : Int) := of_decide_eq_true (by first | (with_reducible assumption) | assumption)
            have q152 : x5_1 < (l0.length : Int) := of_decide_eq_true (by first | (with_reducible assumption) | assumption)
            obtain ⟨ad152, e152, hx152_0⟩ := Kd.at_int HR0.out x5_1 p152 q152
            cases e152
            replace p152 := eq_true p152
            replace q152 := eq_true q152
            go_wp2
            go_roundg k1
            case measure => have := HK1.out; omega
            case rel => exact ⟨(wrap64 (x1_1 + 1)), (wrap64 (x5_1 + 1)), (by first | rfl | (simp; done) | (simp [*]; done)), (by first | rfl | (simp; done) | (simp [*]; done)), H', ⟨by have := HK1.out; omega⟩, by repeat (first | exact Drawn0.refl _ | apply Drawn0.step)⟩
          · rw [if_neg c5] at H
            have c5b0 : ((rd l0 x5_1) == x1_1) = false := beq_eq_false_iff_ne.mpr c5
            have c5b1 : ((rd l0 x5_1) != x1_1) = true := bne_iff_ne.mpr c5
            obtain rfl := Option.some.inj H
            have p152 : 0 ≤ (x5_1 : Int) := of_decide_eq_true (by first | (with_reducible assumption) | assumption)
            have q152 : x5_1 < (l0.length : Int) := of_decide_eq_true (by first | (with_reducible assumption) | assumption)
            obtain ⟨ad152, e152, hx152_0⟩ := Kd.at_int HR0.out x5_1 p152 q152
            cases e152
            replace p152 := eq_true p152
            replace q152 := eq_true q152
            go_wp2
            go_ret
            exact ⟨by first | rfl | (simp; done) | (simp [*]; done), by repeat (first | exact Drawn0.refl _ | apply Drawn0.step)⟩
        · rw [if_neg c4] at H
          exact absurd H (by simp)
      · rw [if_neg c3] at H
        have c3b0 : decide (x5_1 < (l0.length : Int)) = false := decide_eq_false c3
        clear c3
        obtain rfl := Option.some.inj H
        go_wp2
        go_ret
        exact ⟨by first | rfl | (simp; done) | (simp [*]; done), by repeat (first | exact Drawn0.refl _ | apply Drawn0.step)⟩

theorem heldIntS_l0 (a : Int) (n : Nat) (h0 : 0 ≤ a) (h1 : a + n ≤ 4611686018427387904) : ∀ (d i : Nat), i + d = n → Ev (fun k => laws_heldIntS.l0 k (countL a n) (a + i) i) (a + n) := by
  intro d
  induction d with
  | zero =>
    intro i hi
    obtain rfl : i = n := by omega
    refine Ev.step (fun k => by rw [laws_heldIntS.l0]) ?_
    exact evNeg (by rw [countL_length]; omega) (Ev.now _)
  | succ d ih =>
    intro i hi
    have hlt : i < n := by omega
    refine Ev.step (fun k => by rw [laws_heldIntS.l0]) ?_
    refine evPos (by rw [countL_length]; omega) (evPos (by omega) (evPos (countL_get hlt) ?_))
    rw [w64 (by omega) (by omega), w64 (by omega) (by omega)]
    have := ih (i + 1) (by omega)
    rw [show a + (i : Int) + 1 = a + ((i + 1 : Nat) : Int) from by omega, show (i : Int) + 1 = ((i + 1 : Nat) : Int) from by omega]
    exact this
theorem heldIntS_f (a : Int) (n : Nat) (h0 : 0 ≤ a) (h1 : a + n ≤ 4611686018427387904) : Ev (fun k => laws_heldIntS.f k (countL a n) a) (a + n) := by
  have := heldIntS_l0 a n h0 h1 n 0 (by omega)
  simpa [laws_heldIntS.f] using this

/-! ### laws_FnExactJoinBlocks: function 5 -/
def laws_FnExactJoinBlocks.j0 : Nat → List (List Int) → Int → Int → List Int → List Int → Bool → Option (Bool)
  | 0, _, _, _, _, _, _ => none
  | k + 1, x0, x1, x2, x8, x10, x50 => if x50 = true then (some false) else ((laws_markIntS.f k x10 1).bind fun bt174 => ((laws_heldIntS.f k bt174.2 1).bind fun t176 => (if t176 < 0 then (some false) else (if t176 = bt174.1 then ((laws_toIntSS.f k x0).bind fun t177 => ((impl_JoinBlocks.f t177 x1 x2).bind fun t180 => ((laws_eqIntS.f k t180 x8).bind fun t183 => (if t183 = true then ((laws_heldIntS.f k bt174.2 1).bind fun t184 => (if t184 < 0 then (some false) else (if t184 = bt174.1 then (some true) else (some false)))) else (some false))))) else (some false)))))
def laws_FnExactJoinBlocks.f (k : Nat) (l0 : List (List Int)) (a1 : Int) (a2 : Int) : Option (Bool) := (laws_szIntSS.f k l0 1048576).bind fun t153 => (if t153 < 0 then (some true) else ((laws_toIntSS.f k l0).bind fun t154 => ((spec_JoinBlocks.f k t154 a1 a2).bind fun t157 => ((laws_toIntSS.f k l0).bind fun t160 => ((impl_JoinBlocks.f t160 a1 a2).bind fun t163 => ((laws_eqIntS.f k t163 t157).bind fun t166 => (if t166 = true then ((laws_toIntSS.f k l0).bind fun t167 => ((laws_eqIntSS.f k t160 t167).bind fun t170 => (if t170 = true then ((laws_markIntSS.f k t160 1).bind fun bt171 => (if bt171.1 < 0 then (laws_FnExactJoinBlocks.j0 k l0 a1 a2 t157 t163 true) else ((laws_eqIntS.f k t163 t157).bind fun t173 => (laws_FnExactJoinBlocks.j0 k l0 a1 a2 t157 t163 (!t173))))) else (some false)))) else (some false))))))))
theorem laws_FnExactJoinBlocks.mono_l : ∀ k, (∀ y0 y1 y2 y3 y4 y5, LeO (laws_FnExactJoinBlocks.j0 k y0 y1 y2 y3 y4 y5) (laws_FnExactJoinBlocks.j0 (k + 1) y0 y1 y2 y3 y4 y5))
  | 0 => fun _ _ _ _ _ _ r h => by simp [laws_FnExactJoinBlocks.j0] at h
  | k + 1 => by
    have ih0 := laws_FnExactJoinBlocks.mono_l k
    · intro y0 y1 y2 y3 y4 y5
      unfold laws_FnExactJoinBlocks.j0
      repeat' first
      | (with_reducible exact ih0 _ _ _ _ _ _)
      | (with_reducible exact laws_eqIntS.mono _ _ _)
      | (with_reducible exact laws_eqIntSS.mono _ _ _)
      | (with_reducible exact laws_heldIntS.mono _ _ _)
      | (with_reducible exact laws_markIntS.mono _ _ _)
      | (with_reducible exact laws_markIntSS.mono _ _ _)
      | (with_reducible exact laws_szIntSS.mono _ _ _)
      | (with_reducible exact laws_toIntSS.mono _ _)
      | (with_reducible exact spec_JoinBlocks.mono _ _ _ _)
      | (with_reducible exact LeO.refl _)
      | (with_reducible exact LeO.none _)
      | (with_reducible refine LeO.ite ?_ ?_)
      | (with_reducible refine LeO.bind ?_ (fun _ => ?_))
      | exact ih0 _ _ _ _ _ _
      | exact laws_eqIntS.mono _ _ _
      | exact laws_eqIntSS.mono _ _ _
      | exact laws_heldIntS.mono _ _ _
      | exact laws_markIntS.mono _ _ _
      | exact laws_markIntSS.mono _ _ _
      | exact laws_szIntSS.mono _ _ _
      | exact laws_toIntSS.mono _ _
      | exact spec_JoinBlocks.mono _ _ _ _
      | exact LeO.none _
      | refine LeO.ite ?_ ?_
      | refine LeO.bind ?_ (fun _ => ?_)
theorem laws_FnExactJoinBlocks.mono : ∀ a0 a1 a2 k, LeO (laws_FnExactJoinBlocks.f k a0 a1 a2) (laws_FnExactJoinBlocks.f (k + 1) a0 a1 a2) := by
  intro a0 a1 a2 k
  have ih0 := laws_FnExactJoinBlocks.mono_l k
  unfold laws_FnExactJoinBlocks.f
  repeat' first
      | (with_reducible exact ih0 _ _ _ _ _ _)
      | (with_reducible exact laws_eqIntS.mono _ _ _)
      | (with_reducible exact laws_eqIntSS.mono _ _ _)
      | (with_reducible exact laws_heldIntS.mono _ _ _)
      | (with_reducible exact laws_markIntS.mono _ _ _)
      | (with_reducible exact laws_markIntSS.mono _ _ _)
      | (with_reducible exact laws_szIntSS.mono _ _ _)
      | (with_reducible exact laws_toIntSS.mono _ _)
      | (with_reducible exact spec_JoinBlocks.mono _ _ _ _)
      | (with_reducible exact LeO.refl _)
      | (with_reducible exact LeO.none _)
      | (with_reducible refine LeO.ite ?_ ?_)
      | (with_reducible refine LeO.bind ?_ (fun _ => ?_))
      | exact ih0 _ _ _ _ _ _
      | exact laws_eqIntS.mono _ _ _
      | exact laws_eqIntSS.mono _ _ _
      | exact laws_heldIntS.mono _ _ _
      | exact laws_markIntS.mono _ _ _
      | exact laws_markIntSS.mono _ _ _
      | exact laws_szIntSS.mono _ _ _
      | exact laws_toIntSS.mono _ _
      | exact spec_JoinBlocks.mono _ _ _ _
      | exact LeO.none _
      | refine LeO.ite ?_ ?_
      | refine LeO.bind ?_ (fun _ => ?_)
set_option maxHeartbeats 8000000 in
set_option maxRecDepth 100000 in
theorem laws_FnExactJoinBlocks.calls (k : Nat) (A0 : Option Addr) (c0 : Nat) (l0 : List (List Int)) (a1 : Int) (a2 : Int) (r : Bool) (w : World) (hr0 : Kd.C (Kd.slice 3 (Kd.int .i64)) w A0 l0.length l0) (hc0 : l0.length ≤ c0) (HTRUE_ : Aside0 (r = true)) (h : laws_FnExactJoinBlocks.f k l0 a1 a2 = some r) :
    Calls Try.prog 5 #[.slice A0 l0.length c0, .int .i64 a1, .int .i64 a2] w fun e w' => e = .returned (.bool r) ∧ Below w.heap.size w w' := by
  have HR0 := Aside0.mk hr0
  have HC0 := Aside0.mk hc0
  clear hr0 hc0
  have HB := Aside0.mk (Below.refl w.heap.size w)
  have H : ((laws_szIntSS.f k l0 1048576).bind fun t153 => (if t153 < 0 then (some true) else ((laws_toIntSS.f k l0).bind fun t154 => ((spec_JoinBlocks.f k t154 a1 a2).bind fun t157 => ((laws_toIntSS.f k l0).bind fun t160 => ((impl_JoinBlocks.f t160 a1 a2).bind fun t163 => ((laws_eqIntS.f k t163 t157).bind fun t166 => (if t166 = true then ((laws_toIntSS.f k l0).bind fun t167 => ((laws_eqIntSS.f k t160 t167).bind fun t170 => (if t170 = true then ((laws_markIntSS.f k t160 1).bind fun bt171 => (if bt171.1 < 0 then (laws_FnExactJoinBlocks.j0 k l0 a1 a2 t157 t163 true) else ((laws_eqIntS.f k t163 t157).bind fun t173 => (laws_FnExactJoinBlocks.j0 k l0 a1 a2 t157 t163 (!t173))))) else (some false)))) else (some false))))))))) = some r := h
  clear h
  replace H := Option.bind_eq_some_iff.mp H
  obtain ⟨t153, A40, H⟩ := H
  replace H : (if t153 < 0 then (some true) else ((laws_toIntSS.f k l0).bind fun t154 => ((spec_JoinBlocks.f k t154 a1 a2).bind fun t157 => ((laws_toIntSS.f k l0).bind fun t160 => ((impl_JoinBlocks.f t160 a1 a2).bind fun t163 => ((laws_eqIntS.f k t163 t157).bind fun t166 => (if t166 = true then ((laws_toIntSS.f k l0).bind fun t167 => ((laws_eqIntSS.f k t160 t167).bind fun t170 => (if t170 = true then ((laws_markIntSS.f k t160 1).bind fun bt171 => (if bt171.1 < 0 then (laws_FnExactJoinBlocks.j0 k l0 a1 a2 t157 t163 true) else ((laws_eqIntS.f k t163 t157).bind fun t173 => (laws_FnExactJoinBlocks.j0 k l0 a1 a2 t157 t163 (!t173))))) else (some false)))) else (some false)))))))) = some r := H
  have A4 := Aside0.mk A40
  clear A40
  by_cases c5 : t153 < 0
  · rw [if_pos c5] at H
    have c5b0 : decide (t153 < 0) = true := decide_eq_true c5
    clear c5
    obtain rfl := Option.some.inj H
    go_enter Try.func5, Try.ntmps5
    go_wp2_with (first | ((with_reducible refine gate_callee (f := 24) rfl ?_); refine goesL_ (some 17) rfl rfl Try.func24 (by kernel_rfl) rfl #[.slice A0 l0.length c0, .int .i64 1048576] rfl (by (try simp only [List.map_toArray, List.map_cons, List.map_nil]); first | done | rfl | (simp only [List.length_drop, List.length_take]; rfl)) ?_; (with_reducible refine (laws_szIntSS.calls k _ _ l0 1048576 t153 _ ?side1 ?side2 A4.out).mono ?_); (case side1 => repeat (first | exact HR0.out | (with_reducible refine Kd.C_alloc ?_ _) | (with_reducible refine Kd.C_drewN ?_ _) | (with_reducible refine Kd.C_drew ?_))); (case side2 => exact HC0.out); rintro e w' ⟨rfl, ⟨nd, rfl⟩⟩; refine ⟨_, rfl, ?_⟩))
    go_ret
    exact ⟨by first | rfl | (simp [errW_none, errW_some] <;> rfl) | (simp [*, errW_none, errW_some] <;> rfl), by repeat (first | (with_reducible first | exact HB.out | apply below_alloc | apply pw_below_drewN | apply below_drew1) | exact HB.out)⟩
  · rw [if_neg c5] at H
    have c5b0 : decide (t153 < 0) = false := decide_eq_false c5
    clear c5
    replace H := Option.bind_eq_some_iff.mp H
    obtain ⟨t154, A60, H⟩ := H
    replace H : ((spec_JoinBlocks.f k t154 a1 a2).bind fun t157 => ((laws_toIntSS.f k l0).bind fun t160 => ((impl_JoinBlocks.f t160 a1 a2).bind fun t163 => ((laws_eqIntS.f k t163 t157).bind fun t166 => (if t166 = true then ((laws_toIntSS.f k l0).bind fun t167 => ((laws_eqIntSS.f k t160 t167).bind fun t170 => (if t170 = true then ((laws_markIntSS.f k t160 1).bind fun bt171 => (if bt171.1 < 0 then (laws_FnExactJoinBlocks.j0 k l0 a1 a2 t157 t163 true) else ((laws_eqIntS.f k t163 t157).bind fun t173 => (laws_FnExactJoinBlocks.j0 k l0 a1 a2 t157 t163 (!t173))))) else (some false)))) else (some false)))))) = some r := H
    have A6 := Aside0.mk A60
    clear A60
    replace H := Option.bind_eq_some_iff.mp H
    obtain ⟨t157, A70, H⟩ := H
    replace H : ((laws_toIntSS.f k l0).bind fun t160 => ((impl_JoinBlocks.f t160 a1 a2).bind fun t163 => ((laws_eqIntS.f k t163 t157).bind fun t166 => (if t166 = true then ((laws_toIntSS.f k l0).bind fun t167 => ((laws_eqIntSS.f k t160 t167).bind fun t170 => (if t170 = true then ((laws_markIntSS.f k t160 1).bind fun bt171 => (if bt171.1 < 0 then (laws_FnExactJoinBlocks.j0 k l0 a1 a2 t157 t163 true) else ((laws_eqIntS.f k t163 t157).bind fun t173 => (laws_FnExactJoinBlocks.j0 k l0 a1 a2 t157 t163 (!t173))))) else (some false)))) else (some false))))) = some r := H
    have A7 := Aside0.mk A70
    clear A70
    replace H := Option.bind_eq_some_iff.mp H
    obtain ⟨t160, A80, H⟩ := H
    replace H : ((impl_JoinBlocks.f t160 a1 a2).bind fun t163 => ((laws_eqIntS.f k t163 t157).bind fun t166 => (if t166 = true then ((laws_toIntSS.f k l0).bind fun t167 => ((laws_eqIntSS.f k t160 t167).bind fun t170 => (if t170 = true then ((laws_markIntSS.f k t160 1).bind fun bt171 => (if bt171.1 < 0 then (laws_FnExactJoinBlocks.j0 k l0 a1 a2 t157 t163 true) else ((laws_eqIntS.f k t163 t157).bind fun t173 => (laws_FnExactJoinBlocks.j0 k l0 a1 a2 t157 t163 (!t173))))) else (some false)))) else (some false)))) = some r := H
    have A8 := Aside0.mk A80
    clear A80
    replace H := Option.bind_eq_some_iff.mp H
    obtain ⟨t163, A90, H⟩ := H
    replace H : ((laws_eqIntS.f k t163 t157).bind fun t166 => (if t166 = true then ((laws_toIntSS.f k l0).bind fun t167 => ((laws_eqIntSS.f k t160 t167).bind fun t170 => (if t170 = true then ((laws_markIntSS.f k t160 1).bind fun bt171 => (if bt171.1 < 0 then (laws_FnExactJoinBlocks.j0 k l0 a1 a2 t157 t163 true) else ((laws_eqIntS.f k t163 t157).bind fun t173 => (laws_FnExactJoinBlocks.j0 k l0 a1 a2 t157 t163 (!t173))))) else (some false)))) else (some false))) = some r := H
    have A9 := Aside0.mk A90
    clear A90
    replace H := Option.bind_eq_some_iff.mp H
    obtain ⟨t166, A100, H⟩ := H
    replace H : (if t166 = true then ((laws_toIntSS.f k l0).bind fun t167 => ((laws_eqIntSS.f k t160 t167).bind fun t170 => (if t170 = true then ((laws_markIntSS.f k t160 1).bind fun bt171 => (if bt171.1 < 0 then (laws_FnExactJoinBlocks.j0 k l0 a1 a2 t157 t163 true) else ((laws_eqIntS.f k t163 t157).bind fun t173 => (laws_FnExactJoinBlocks.j0 k l0 a1 a2 t157 t163 (!t173))))) else (some false)))) else (some false)) = some r := H
    have A10 := Aside0.mk A100
    clear A100
    by_cases c11 : t166 = true
    · subst c11
      have H1 : ((laws_toIntSS.f k l0).bind fun t167 => ((laws_eqIntSS.f k t160 t167).bind fun t170 => (if t170 = true then ((laws_markIntSS.f k t160 1).bind fun bt171 => (if bt171.1 < 0 then (laws_FnExactJoinBlocks.j0 k l0 a1 a2 t157 t163 true) else ((laws_eqIntS.f k t163 t157).bind fun t173 => (laws_FnExactJoinBlocks.j0 k l0 a1 a2 t157 t163 (!t173))))) else (some false)))) = some r := by rw [if_pos rfl] at H; exact H
      clear H
      have H := H1
      clear H1
      replace H := Option.bind_eq_some_iff.mp H
      obtain ⟨t167, A120, H⟩ := H
      replace H : ((laws_eqIntSS.f k t160 t167).bind fun t170 => (if t170 = true then ((laws_markIntSS.f k t160 1).bind fun bt171 => (if bt171.1 < 0 then (laws_FnExactJoinBlocks.j0 k l0 a1 a2 t157 t163 true) else ((laws_eqIntS.f k t163 t157).bind fun t173 => (laws_FnExactJoinBlocks.j0 k l0 a1 a2 t157 t163 (!t173))))) else (some false))) = some r := H
      have A12 := Aside0.mk A120
      clear A120
      replace H := Option.bind_eq_some_iff.mp H
      obtain ⟨t170, A130, H⟩ := H
      replace H : (if t170 = true then ((laws_markIntSS.f k t160 1).bind fun bt171 => (if bt171.1 < 0 then (laws_FnExactJoinBlocks.j0 k l0 a1 a2 t157 t163 true) else ((laws_eqIntS.f k t163 t157).bind fun t173 => (laws_FnExactJoinBlocks.j0 k l0 a1 a2 t157 t163 (!t173))))) else (some false)) = some r := H
      have A13 := Aside0.mk A130
      clear A130
      by_cases c14 : t170 = true
      · subst c14
        have H1 : ((laws_markIntSS.f k t160 1).bind fun bt171 => (if bt171.1 < 0 then (laws_FnExactJoinBlocks.j0 k l0 a1 a2 t157 t163 true) else ((laws_eqIntS.f k t163 t157).bind fun t173 => (laws_FnExactJoinBlocks.j0 k l0 a1 a2 t157 t163 (!t173))))) = some r := by rw [if_pos rfl] at H; exact H
        clear H
        have H := H1
        clear H1
        replace H := Option.bind_eq_some_iff.mp H
        obtain ⟨⟨t171, t172⟩, A150, H⟩ := H
        replace H : (if t171 < 0 then (laws_FnExactJoinBlocks.j0 k l0 a1 a2 t157 t163 true) else ((laws_eqIntS.f k t163 t157).bind fun t173 => (laws_FnExactJoinBlocks.j0 k l0 a1 a2 t157 t163 (!t173)))) = some r := H
        have A15 := Aside0.mk A150
        clear A150
        have HC16 := Aside0.mk H
        clear H
        go_enter Try.func5, Try.ntmps5
        go_upto_region 14 with (first | ((with_reducible refine gate_callee (f := 24) rfl ?_); refine goesL_ (some 17) rfl rfl Try.func24 (by kernel_rfl) rfl #[.slice A0 l0.length c0, .int .i64 1048576] rfl (by (try simp only [List.map_toArray, List.map_cons, List.map_nil]); first | done | rfl | (simp only [List.length_drop, List.length_take]; rfl)) ?_; (with_reducible refine (laws_szIntSS.calls k _ _ l0 1048576 t153 _ ?side1 ?side2 A4.out).mono ?_); (case side1 => repeat (first | exact HR0.out | (with_reducible refine Kd.C_alloc ?_ _) | (with_reducible refine Kd.C_drewN ?_ _) | (with_reducible refine Kd.C_drew ?_))); (case side2 => exact HC0.out); rintro e w' ⟨rfl, ⟨nd, rfl⟩⟩; refine ⟨_, rfl, ?_⟩) | ((with_reducible refine gate_callee (f := 26) rfl ?_); refine goesL_ (some 21) rfl rfl Try.func26 (by kernel_rfl) rfl #[.slice A0 l0.length c0] rfl (by (try simp only [List.map_toArray, List.map_cons, List.map_nil]); first | done | rfl | (simp only [List.length_drop, List.length_take]; rfl)) ?_; (with_reducible refine (laws_toIntSS.calls k _ _ l0 t154 _ ?side1 ?side2 A6.out).mono ?_); (case side1 => repeat (first | exact HR0.out | (with_reducible refine Kd.C_alloc ?_ _) | (with_reducible refine Kd.C_drewN ?_ _) | (with_reducible refine Kd.C_drew ?_))); (case side2 => exact HC0.out); rintro e w17 ⟨v155, rfl, ho0, hb⟩; refine ⟨_, rfl, ?_⟩; have n0_ := Aside0.mk (Kd.S_lower ho0 (below_size (by repeat (first | (with_reducible first | exact HB.out | apply below_alloc | apply pw_below_drewN | apply below_drew1) | exact HB.out)))); have n1_ := Aside0.mk (below_step (by repeat (first | (with_reducible first | exact HB.out | apply below_alloc | apply pw_below_drewN | apply below_drew1) | exact HB.out)) hb); clear HB; have HO156 := n0_; have HB := n1_; clear n0_ n1_; (try clear hb); (try clear hb2); (try clear hk); (try clear hi); (try clear ho0); obtain ⟨Ao18, co18, eo18⟩ := Kd.S_slice HO156.out; subst eo18) | ((with_reducible refine gate_callee (f := 25) rfl ?_); refine goesL_ (some 24) rfl rfl Try.func25 (by kernel_rfl) rfl #[.slice Ao18 t154.length co18, .int .i64 a1, .int .i64 a2] rfl (by (try simp only [List.map_toArray, List.map_cons, List.map_nil]); first | done | rfl | (simp only [List.length_drop, List.length_take]; rfl)) ?_; (with_reducible refine (spec_JoinBlocks.calls k _ _ t154 a1 a2 t157 _ ?side1 ?side2 A7.out).mono ?_); (case side1 => repeat (first | exact (Kd.S_reads' HO156.out).2.2 | (with_reducible refine Kd.C_alloc ?_ _) | (with_reducible refine Kd.C_drewN ?_ _) | (with_reducible refine Kd.C_drew ?_))); (case side2 => exact (Kd.S_reads' HO156.out).2.1); rintro e w19 ⟨v158, rfl, ho0, hb⟩; refine ⟨_, rfl, ?_⟩; have n0_ := Aside0.mk (Kd.S_elder' (by (with_reducible repeat (first | apply Kd.S_alloc | apply Kd.S_drewN | apply Kd.S_drew)); exact HO156.out) (Kd.R_base ho0) hb); have n1_ := Aside0.mk (Kd.R_lower ho0 (below_size (by repeat (first | (with_reducible first | exact HB.out | apply below_alloc | apply pw_below_drewN | apply below_drew1) | exact HB.out)))); have n2_ := Aside0.mk (below_step (by repeat (first | (with_reducible first | exact HB.out | apply below_alloc | apply pw_below_drewN | apply below_drew1) | exact HB.out)) hb); clear HO156; clear HB; have HO156 := n0_; have HO159 := n1_; have HB := n2_; clear n0_ n1_ n2_; (try clear hb); (try clear hb2); (try clear hk); (try clear hi); (try clear ho0)) | ((with_reducible refine gate_callee (f := 26) rfl ?_); refine goesL_ (some 26) rfl rfl Try.func26 (by kernel_rfl) rfl #[.slice A0 l0.length c0] rfl (by (try simp only [List.map_toArray, List.map_cons, List.map_nil]); first | done | rfl | (simp only [List.length_drop, List.length_take]; rfl)) ?_; (with_reducible refine (laws_toIntSS.calls k _ _ l0 t160 _ ?side1 ?side2 A8.out).mono ?_); (case side1 => repeat (first | exact (Kd.C_below HR0.out HB.out) | (with_reducible refine Kd.C_alloc ?_ _) | (with_reducible refine Kd.C_drewN ?_ _) | (with_reducible refine Kd.C_drew ?_))); (case side2 => exact HC0.out); rintro e w20 ⟨v161, rfl, ho0, hb⟩; refine ⟨_, rfl, ?_⟩; have n0_ := Aside0.mk (Kd.R_below (by (with_reducible repeat (first | apply Kd.R_alloc | apply Kd.R_drewN | apply Kd.R_drew)); exact HO159.out) hb); have n1_ := Aside0.mk (Kd.S_lower (Kd.S_new' ho0 (Kd.R_lt (by (with_reducible repeat (first | apply Kd.R_alloc | apply Kd.R_drewN | apply Kd.R_drew)); exact HO159.out))) (below_size (by repeat (first | (with_reducible first | exact HB.out | apply below_alloc | apply pw_below_drewN | apply below_drew1) | exact HB.out)))); have n2_ := Aside0.mk (below_step (by repeat (first | (with_reducible first | exact HB.out | apply below_alloc | apply pw_below_drewN | apply below_drew1) | exact HB.out)) hb); clear HO159; clear HB; have HO159 := n0_; have HO162 := n1_; have HB := n2_; clear n0_ n1_ n2_; (try clear hb); (try clear hb2); (try clear hk); (try clear hi); (try clear ho0); obtain ⟨Ao21, co21, eo21⟩ := Kd.S_slice HO162.out; subst eo21) | ((with_reducible refine gate_callee (f := 27) rfl ?_); refine goesL_ (some 30) rfl rfl Try.func27 (by kernel_rfl) rfl #[.slice Ao21 t160.length co21, .int .i64 a1, .int .i64 a2] rfl (by (try simp only [List.map_toArray, List.map_cons, List.map_nil]); first | done | rfl | (simp only [List.length_drop, List.length_take]; rfl)) ?_; (with_reducible refine (impl_JoinBlocks.calls _ _ t160 a1 a2 t163 _ ?side1 ?side2 A9.out).mono ?_); (case side1 => repeat (first | exact (Kd.S_reads' HO162.out).2.2 | (with_reducible refine Kd.C_alloc ?_ _) | (with_reducible refine Kd.C_drewN ?_ _) | (with_reducible refine Kd.C_drew ?_))); (case side2 => exact (Kd.S_reads' HO162.out).2.1); rintro e w22 ⟨v164, rfl, ho0, hb⟩; refine ⟨_, rfl, ?_⟩; have n0_ := Aside0.mk (Kd.R_elder' (by (with_reducible repeat (first | apply Kd.R_alloc | apply Kd.R_drewN | apply Kd.R_drew)); exact HO159.out) (Kd.R_base ho0) hb); have n1_ := Aside0.mk (Kd.S_elder' (by (with_reducible repeat (first | apply Kd.S_alloc | apply Kd.S_drewN | apply Kd.S_drew)); exact HO162.out) (Kd.R_base ho0) hb); have n2_ := Aside0.mk (Kd.R_lower (Kd.R_new' ho0 (Kd.R_lt (by (with_reducible repeat (first | apply Kd.R_alloc | apply Kd.R_drewN | apply Kd.R_drew)); exact HO159.out))) (below_size (by repeat (first | (with_reducible first | exact HB.out | apply below_alloc | apply pw_below_drewN | apply below_drew1) | exact HB.out)))); have n3_ := Aside0.mk (below_step (by repeat (first | (with_reducible first | exact HB.out | apply below_alloc | apply pw_below_drewN | apply below_drew1) | exact HB.out)) hb); clear HO159; clear HO162; clear HB; have HO159 := n0_; have HO162 := n1_; have HO165 := n2_; have HB := n3_; clear n0_ n1_ n2_ n3_; (try clear hb); (try clear hb2); (try clear hk); (try clear hi); (try clear ho0); obtain ⟨Ao23, co23, eo23⟩ := Kd.R_slice HO165.out; subst eo23; obtain ⟨Ao24, co24, eo24⟩ := Kd.R_slice HO159.out; subst eo24) | ((with_reducible refine gate_callee (f := 20) rfl ?_); refine goesL_ (some 33) rfl rfl Try.func20 (by kernel_rfl) rfl #[.slice Ao23 t163.length co23, .slice Ao24 t157.length co24] rfl (by (try simp only [List.map_toArray, List.map_cons, List.map_nil]); first | done | rfl | (simp only [List.length_drop, List.length_take]; rfl)) ?_; (with_reducible refine (laws_eqIntS.calls k _ _ t163 _ _ t157 true _ ?side1 ?side2 ?side3 ?side4 A10.out).mono ?_); (case side1 => repeat (first | exact (Kd.R_reads' HO165.out).2.2 | (with_reducible refine Kd.C_alloc ?_ _) | (with_reducible refine Kd.C_drewN ?_ _) | (with_reducible refine Kd.C_drew ?_))); (case side2 => exact (Kd.R_reads' HO165.out).2.1); (case side3 => repeat (first | exact (Kd.R_reads' HO159.out).2.2 | (with_reducible refine Kd.C_alloc ?_ _) | (with_reducible refine Kd.C_drewN ?_ _) | (with_reducible refine Kd.C_drew ?_))); (case side4 => exact (Kd.R_reads' HO159.out).2.1); rintro e w' ⟨rfl, ⟨nd, rfl⟩⟩; refine ⟨_, rfl, ?_⟩) | ((with_reducible refine gate_callee (f := 26) rfl ?_); refine goesL_ (some 37) rfl rfl Try.func26 (by kernel_rfl) rfl #[.slice A0 l0.length c0] rfl (by (try simp only [List.map_toArray, List.map_cons, List.map_nil]); first | done | rfl | (simp only [List.length_drop, List.length_take]; rfl)) ?_; (with_reducible refine (laws_toIntSS.calls k _ _ l0 t167 _ ?side1 ?side2 A12.out).mono ?_); (case side1 => repeat (first | exact (Kd.C_below HR0.out (by repeat (first | (with_reducible first | exact HB.out | apply below_alloc | apply pw_below_drewN | apply below_drew1) | exact HB.out))) | (with_reducible refine Kd.C_alloc ?_ _) | (with_reducible refine Kd.C_drewN ?_ _) | (with_reducible refine Kd.C_drew ?_))); (case side2 => exact HC0.out); rintro e w25 ⟨v168, rfl, ho0, hb⟩; refine ⟨_, rfl, ?_⟩; have n0_ := Aside0.mk (Kd.R_below (by (with_reducible repeat (first | apply Kd.R_alloc | apply Kd.R_drewN | apply Kd.R_drew)); exact HO159.out) hb); have n1_ := Aside0.mk (Kd.S_elder' (by (with_reducible repeat (first | apply Kd.S_alloc | apply Kd.S_drewN | apply Kd.S_drew)); exact HO162.out) (Kd.S_base ho0) hb); have n2_ := Aside0.mk (Kd.R_below (by (with_reducible repeat (first | apply Kd.R_alloc | apply Kd.R_drewN | apply Kd.R_drew)); exact HO165.out) hb); have n3_ := Aside0.mk (Kd.S_lower (Kd.S_new' (Kd.S_new' (Kd.S_new' ho0 (Kd.R_lt (by (with_reducible repeat (first | apply Kd.R_alloc | apply Kd.R_drewN | apply Kd.R_drew)); exact HO159.out))) (Kd.S_lt (by (with_reducible repeat (first | apply Kd.S_alloc | apply Kd.S_drewN | apply Kd.S_drew)); exact HO162.out))) (Kd.R_lt (by (with_reducible repeat (first | apply Kd.R_alloc | apply Kd.R_drewN | apply Kd.R_drew)); exact HO165.out))) (below_size (by repeat (first | (with_reducible first | exact HB.out | apply below_alloc | apply pw_below_drewN | apply below_drew1) | exact HB.out)))); have n4_ := Aside0.mk (below_step (by repeat (first | (with_reducible first | exact HB.out | apply below_alloc | apply pw_below_drewN | apply below_drew1) | exact HB.out)) hb); clear HO159; clear HO162; clear HO165; clear HB; have HO159 := n0_; have HO162 := n1_; have HO165 := n2_; have HO169 := n3_; have HB := n4_; clear n0_ n1_ n2_ n3_ n4_; (try clear hb); (try clear hb2); (try clear hk); (try clear hi); (try clear ho0); obtain ⟨Ao26, co26, eo26⟩ := Kd.S_slice HO169.out; subst eo26) | ((with_reducible refine gate_callee (f := 19) rfl ?_); refine goesL_ (some 38) rfl rfl Try.func19 (by kernel_rfl) rfl #[.slice Ao21 t160.length co21, .slice Ao26 t167.length co26] rfl (by (try simp only [List.map_toArray, List.map_cons, List.map_nil]); first | done | rfl | (simp only [List.length_drop, List.length_take]; rfl)) ?_; (with_reducible refine (laws_eqIntSS.calls k _ _ t160 _ _ t167 true _ ?side1 ?side2 ?side3 ?side4 A13.out).mono ?_); (case side1 => repeat (first | exact (Kd.S_reads' HO162.out).2.2 | (with_reducible refine Kd.C_alloc ?_ _) | (with_reducible refine Kd.C_drewN ?_ _) | (with_reducible refine Kd.C_drew ?_))); (case side2 => exact (Kd.S_reads' HO162.out).2.1); (case side3 => repeat (first | exact (Kd.S_reads' HO169.out).2.2 | (with_reducible refine Kd.C_alloc ?_ _) | (with_reducible refine Kd.C_drewN ?_ _) | (with_reducible refine Kd.C_drew ?_))); (case side4 => exact (Kd.S_reads' HO169.out).2.1); rintro e w' ⟨rfl, ⟨nd, rfl⟩⟩; refine ⟨_, rfl, ?_⟩) | ((with_reducible refine gate_callee (f := 22) rfl ?_); refine goesL_ (some 42) rfl rfl Try.func22 (by kernel_rfl) rfl #[.slice Ao21 t160.length co21, .int .i64 1] rfl (by (try simp only [List.map_toArray, List.map_cons, List.map_nil]); first | done | rfl | (simp only [List.length_drop, List.length_take]; rfl)) ?_; (refine (laws_markIntSS.calls k _ (.slice Ao21 t160.length co21) t160 1 t171 t172 w _ ?side1 (by first | exact Kd.S_bound HO162.out | exact Kd.S_drewN (Kd.S_bound HO162.out) _) A15.out).mono ?_); (case side1 => repeat (first | (with_reducible first | exact HB.out | apply below_alloc | apply pw_below_drewN | apply below_drew1) | exact HB.out)); rintro e w27 ⟨rfl, hy0, hb, hkp⟩; refine ⟨_, rfl, ?_⟩; have n0_ := Aside0.mk (keptO rfl (by (with_reducible repeat (first | apply Kd.R_alloc | apply Kd.R_drewN | apply Kd.R_drew)); exact HO159.out) hkp (fun k_ e_ hs_ => (hs_.1.1.1.2) e_)); have n1_ := Aside0.mk (Kd.S_mono hy0 (fun _ h_ => h_.1)); have n2_ := Aside0.mk (keptO rfl (by (with_reducible repeat (first | apply Kd.R_alloc | apply Kd.R_drewN | apply Kd.R_drew)); exact HO165.out) hkp (fun k_ e_ hs_ => (hs_.1.1.2) e_)); have n3_ := Aside0.mk (hb); clear HO159; clear HO162; clear HO165; clear HB; have HO159 := n0_; have HO162 := n1_; have HO165 := n2_; have HB := n3_; clear n0_ n1_ n2_ n3_; (try clear hb); (try clear hkp); (try clear hy0)))
        (try simp only [Act.put, List.setIfInBounds_toArray, List.set_cons_zero, List.set_cons_succ])
        go_cut [50] (fun v50 wc => ∃ (kq : Nat) (x50_15 : Bool), v50 = .bool x50_15 ∧ Aside0 (laws_FnExactJoinBlocks.j0 kq l0 a1 a2 t157 t163 x50_15 = some r) ∧ Aside0 (kq ≤ k) ∧ Aside0 (Kd.R (Kd.int .i64) 3 wc w.heap.size (fun k_ => some k_ ≠ ((.slice Ao23 t163.length co23) : Value).ownBlock) (.slice Ao24 t157.length co24) t157) ∧ Aside0 (Kd.R (Kd.int .i64) 3 wc w.heap.size (fun k_ => some k_ ≠ ((.slice Ao24 t157.length co24) : Value).ownBlock) (.slice Ao23 t163.length co23) t163) ∧ Aside0 (Below w.heap.size w wc))
        case first =>
          have H := HC16.out
          clear HC16
          by_cases c28 : t171 < 0
          · rw [if_pos c28] at H
            have c28b0 : decide (t171 < 0) = true := decide_eq_true c28
            clear c28
            (first | rw [c28b0] | (simp only [i64_w, i32_w]; rw [c28b0]) | skip)
            have H' := Aside0.mk H
            clear H
            go_wp2
            go_meet
            case rel => exact ⟨_, (true), (by first | rfl | (simp; done) | (simp [*]; done)), H', ⟨by first | omega | exact Nat.le_refl _⟩, ⟨by (with_reducible repeat (first | apply Kd.R_alloc | apply Kd.R_drewN | apply Kd.R_drew)); exact Kd.R_mono HO159.out (fun _ hk => by first | exact hk.2 | simp only [ne_eq, hk, not_false_eq_true, and_self])⟩, ⟨by (with_reducible repeat (first | apply Kd.R_alloc | apply Kd.R_drewN | apply Kd.R_drew)); exact Kd.R_mono HO165.out (fun _ hk => by first | exact hk.2 | simp only [ne_eq, hk, not_false_eq_true, and_self])⟩, ⟨by repeat (first | (with_reducible first | exact HB.out | apply below_alloc | apply pw_below_drewN | apply below_drew1) | exact HB.out)⟩⟩
          · rw [if_neg c28] at H
            have c28b0 : decide (t171 < 0) = false := decide_eq_false c28
            clear c28
            (first | rw [c28b0] | (simp only [i64_w, i32_w]; rw [c28b0]) | skip)
            replace H := Option.bind_eq_some_iff.mp H
            obtain ⟨t173, A290, H⟩ := H
            replace H : (laws_FnExactJoinBlocks.j0 k l0 a1 a2 t157 t163 (!t173)) = some r := H
            have A29 := Aside0.mk A290
            clear A290
            have H' := Aside0.mk H
            clear H
            go_wp2_with (first | (go_at_call 20; (with_reducible refine (laws_eqIntS.calls k _ _ t163 _ _ t157 t173 _ ?side1 ?side2 ?side3 ?side4 A29.out).mono ?_); (case side1 => repeat (first | exact (Kd.R_reads' HO165.out).2.2 | (with_reducible refine Kd.C_alloc ?_ _) | (with_reducible refine Kd.C_drewN ?_ _) | (with_reducible refine Kd.C_drew ?_))); (case side2 => exact (Kd.R_reads' HO165.out).2.1); (case side3 => repeat (first | exact (Kd.R_reads' HO159.out).2.2 | (with_reducible refine Kd.C_alloc ?_ _) | (with_reducible refine Kd.C_drewN ?_ _) | (with_reducible refine Kd.C_drew ?_))); (case side4 => exact (Kd.R_reads' HO159.out).2.1); rintro e w' ⟨rfl, ⟨nd, rfl⟩⟩))
            go_meet
            case rel => exact ⟨_, (!t173), (by first | rfl | (simp; done) | (simp [*]; done)), H', ⟨by first | omega | exact Nat.le_refl _⟩, ⟨by (with_reducible repeat (first | apply Kd.R_alloc | apply Kd.R_drewN | apply Kd.R_drew)); exact Kd.R_mono HO159.out (fun _ hk => by first | exact hk.2 | simp only [ne_eq, hk, not_false_eq_true, and_self])⟩, ⟨by (with_reducible repeat (first | apply Kd.R_alloc | apply Kd.R_drewN | apply Kd.R_drew)); exact Kd.R_mono HO165.out (fun _ hk => by first | exact hk.2 | simp only [ne_eq, hk, not_false_eq_true, and_self])⟩, ⟨by repeat (first | (with_reducible first | exact HB.out | apply below_alloc | apply pw_below_drewN | apply below_drew1) | exact HB.out)⟩⟩
        case rest =>
          clear HC16
          try clear c1
          try clear c2
          try clear p2
          try clear c5
          try clear c5b0
          try clear c11
          try clear c14
          try clear c19
          try clear c20
          try clear c22
          try clear c24
          try clear c25
          try clear c26
          try clear c27
          try clear c28
          try clear c28b0
          obtain ⟨kq, x50_15, rfl, HA, HJ15, HO_8, HO_10, HB⟩ := hcut
          cases kq with
          | zero => exact absurd HA.out (by simp [laws_FnExactJoinBlocks.j0])
          | succ kj15 =>
            have H := HA.out
            clear HA
            simp only [laws_FnExactJoinBlocks.j0] at H
            by_cases c30 : x50_15 = true
            · subst c30
              have H1 : (some false) = some r := by rw [if_pos rfl] at H; exact H
              clear H
              have H := H1
              clear H1
              exact noArm H HTRUE_.out
            · replace c30 := Bool.eq_false_iff.mpr c30
              subst c30
              have H1 : ((laws_markIntS.f kj15 t163 1).bind fun bt174 => ((laws_heldIntS.f kj15 bt174.2 1).bind fun t176 => (if t176 < 0 then (some false) else (if t176 = bt174.1 then ((laws_toIntSS.f kj15 l0).bind fun t177 => ((impl_JoinBlocks.f t177 a1 a2).bind fun t180 => ((laws_eqIntS.f kj15 t180 t157).bind fun t183 => (if t183 = true then ((laws_heldIntS.f kj15 bt174.2 1).bind fun t184 => (if t184 < 0 then (some false) else (if t184 = bt174.1 then (some true) else (some false)))) else (some false))))) else (some false))))) = some r := by rw [if_neg (show ¬ (false = true) by decide)] at H; exact H
              clear H
              have H := H1
              clear H1
              replace H := Option.bind_eq_some_iff.mp H
              obtain ⟨⟨t174, t175⟩, A310, H⟩ := H
              replace H : ((laws_heldIntS.f kj15 t175 1).bind fun t176 => (if t176 < 0 then (some false) else (if t176 = t174 then ((laws_toIntSS.f kj15 l0).bind fun t177 => ((impl_JoinBlocks.f t177 a1 a2).bind fun t180 => ((laws_eqIntS.f kj15 t180 t157).bind fun t183 => (if t183 = true then ((laws_heldIntS.f kj15 t175 1).bind fun t184 => (if t184 < 0 then (some false) else (if t184 = t174 then (some true) else (some false)))) else (some false))))) else (some false)))) = some r := H
              have A31 := Aside0.mk A310
              clear A310
              replace H := Option.bind_eq_some_iff.mp H
              obtain ⟨t176, A320, H⟩ := H
              replace H : (if t176 < 0 then (some false) else (if t176 = t174 then ((laws_toIntSS.f kj15 l0).bind fun t177 => ((impl_JoinBlocks.f t177 a1 a2).bind fun t180 => ((laws_eqIntS.f kj15 t180 t157).bind fun t183 => (if t183 = true then ((laws_heldIntS.f kj15 t175 1).bind fun t184 => (if t184 < 0 then (some false) else (if t184 = t174 then (some true) else (some false)))) else (some false))))) else (some false))) = some r := H
              have A32 := Aside0.mk A320
              clear A320
              by_cases c33 : t176 < 0
              · rw [if_pos c33] at H
                have c33b0 : decide (t176 < 0) = true := decide_eq_true c33
                clear c33
                exact noArm H HTRUE_.out
              · rw [if_neg c33] at H
                have c33b0 : decide (t176 < 0) = false := decide_eq_false c33
                clear c33
                by_cases c34 : t176 = t174
                · rw [if_pos c34] at H
                  have c34b0 : (t176 == t174) = true := beq_iff_eq.mpr c34
                  have c34b1 : (t176 != t174) = false := bne_eq_false_iff_eq.mpr c34
                  clear c34
                  replace H := Option.bind_eq_some_iff.mp H
                  obtain ⟨t177, A350, H⟩ := H
                  replace H : ((impl_JoinBlocks.f t177 a1 a2).bind fun t180 => ((laws_eqIntS.f kj15 t180 t157).bind fun t183 => (if t183 = true then ((laws_heldIntS.f kj15 t175 1).bind fun t184 => (if t184 < 0 then (some false) else (if t184 = t174 then (some true) else (some false)))) else (some false)))) = some r := H
                  have A35 := Aside0.mk A350
                  clear A350
                  replace H := Option.bind_eq_some_iff.mp H
                  obtain ⟨t180, A360, H⟩ := H
                  replace H : ((laws_eqIntS.f kj15 t180 t157).bind fun t183 => (if t183 = true then ((laws_heldIntS.f kj15 t175 1).bind fun t184 => (if t184 < 0 then (some false) else (if t184 = t174 then (some true) else (some false)))) else (some false))) = some r := H
                  have A36 := Aside0.mk A360
                  clear A360
                  replace H := Option.bind_eq_some_iff.mp H
                  obtain ⟨t183, A370, H⟩ := H
                  replace H : (if t183 = true then ((laws_heldIntS.f kj15 t175 1).bind fun t184 => (if t184 < 0 then (some false) else (if t184 = t174 then (some true) else (some false)))) else (some false)) = some r := H
                  have A37 := Aside0.mk A370
                  clear A370
                  by_cases c38 : t183 = true
                  · subst c38
                    have H1 : ((laws_heldIntS.f kj15 t175 1).bind fun t184 => (if t184 < 0 then (some false) else (if t184 = t174 then (some true) else (some false)))) = some r := by rw [if_pos rfl] at H; exact H
                    clear H
                    have H := H1
                    clear H1
                    replace H := Option.bind_eq_some_iff.mp H
                    obtain ⟨t184, A390, H⟩ := H
                    replace H : (if t184 < 0 then (some false) else (if t184 = t174 then (some true) else (some false))) = some r := H
                    have A39 := Aside0.mk A390
                    clear A390
                    by_cases c40 : t184 < 0
                    · rw [if_pos c40] at H
                      have c40b0 : decide (t184 < 0) = true := decide_eq_true c40
                      clear c40
                      exact noArm H HTRUE_.out
                    · rw [if_neg c40] at H
                      have c40b0 : decide (t184 < 0) = false := decide_eq_false c40
                      clear c40
                      by_cases c41 : t184 = t174
                      · rw [if_pos c41] at H
                        have c41b0 : (t184 == t174) = true := beq_iff_eq.mpr c41
                        have c41b1 : (t184 != t174) = false := bne_eq_false_iff_eq.mpr c41
                        clear c41
                        obtain rfl := Option.some.inj H
                        go_wp2_with (first | ((with_reducible refine gate_callee (f := 21) rfl ?_); refine goesL_ (some 53) rfl rfl Try.func21 (by kernel_rfl) rfl #[.slice Ao23 t163.length co23, .int .i64 1] rfl (by (try simp only [List.map_toArray, List.map_cons, List.map_nil]); first | done | rfl | (simp only [List.length_drop, List.length_take]; rfl)) ?_; (with_reducible refine (laws_markIntS.calls kj15 (fun k_ => some k_ = (.slice Ao23 t163.length co23 : Value).ownBlock) (.slice Ao23 t163.length co23) t163 1 t174 t175 w _ ?side1 ?side2 A31.out).mono ?_); (case side1 => repeat (first | (with_reducible first | exact HB.out | apply below_alloc | apply pw_below_drewN | apply below_drew1) | exact HB.out)); (case side2 => exact Kd.R_tight rfl HO_10.out); rintro e w42 ⟨rfl, hy0, hb, hkp⟩; refine ⟨_, rfl, ?_⟩; have n0_ := Aside0.mk (Kd.R_mono (ok' := fun k_ => some k_ ≠ (.slice Ao23 t163.length co23 : Value).ownBlock) (Kd.R_keptB (HO_8.out) hkp (fun k_ hk_ hs_ => by simp only [ne_eq, hs_, not_true_eq_false, and_false, false_and] at hk_)) (fun k_ hk_ => hk_.1)); have n1_ := Aside0.mk (Kd.R_reok rfl hy0 (fun k_ e_ => HO_10.out.1 k_ e_)); have n2_ := Aside0.mk (hb); clear HO_8; clear HO_10; clear HB; have HO_8 := n0_; have HO_10 := n1_; have HB := n2_; clear n0_ n1_ n2_; (try clear hb); (try clear hkp); (try clear hy0)) | ((with_reducible refine gate_callee (f := 28) rfl ?_); refine goesL_ (some 56) rfl rfl Try.func28 (by kernel_rfl) rfl #[.slice Ao23 t175.length co23, .int .i64 1] rfl (by (try simp only [List.map_toArray, List.map_cons, List.map_nil]); first | done | (rw [show t175.length = t163.length from (Kd.R_reads' HO_10.out).1.symm] <;> rfl) | rfl | (simp only [List.length_drop, List.length_take]; rfl)) ?_; (with_reducible refine (laws_heldIntS.calls kj15 _ _ t175 1 t176 _ ?side1 ?side2 A32.out).mono ?_); (case side1 => repeat (first | exact (Kd.R_reads' HO_10.out).2.2 | (with_reducible refine Kd.C_alloc ?_ _) | (with_reducible refine Kd.C_drewN ?_ _) | (with_reducible refine Kd.C_drew ?_))); (case side2 => rw [show t175.length = t163.length from (Kd.R_reads' HO_10.out).1.symm]; exact (Kd.R_reads' HO_10.out).2.1); rintro e w' ⟨rfl, ⟨nd, rfl⟩⟩; refine ⟨_, rfl, ?_⟩) | ((with_reducible refine gate_callee (f := 26) rfl ?_); refine goesL_ (some 63) rfl rfl Try.func26 (by kernel_rfl) rfl #[.slice A0 l0.length c0] rfl (by (try simp only [List.map_toArray, List.map_cons, List.map_nil]); first | done | rfl | (simp only [List.length_drop, List.length_take]; rfl)) ?_; (with_reducible refine (laws_toIntSS.calls kj15 _ _ l0 t177 _ ?side1 ?side2 A35.out).mono ?_); (case side1 => repeat (first | exact (Kd.C_below HR0.out (by repeat (first | (with_reducible first | exact HB.out | apply below_alloc | apply pw_below_drewN | apply below_drew1) | exact HB.out))) | (with_reducible refine Kd.C_alloc ?_ _) | (with_reducible refine Kd.C_drewN ?_ _) | (with_reducible refine Kd.C_drew ?_))); (case side2 => exact HC0.out); rintro e w43 ⟨v178, rfl, ho0, hb⟩; refine ⟨_, rfl, ?_⟩; have n0_ := Aside0.mk (Kd.R_below (by (with_reducible repeat (first | apply Kd.R_alloc | apply Kd.R_drewN | apply Kd.R_drew)); exact HO_8.out) hb); have n1_ := Aside0.mk (Kd.R_below (by (with_reducible repeat (first | apply Kd.R_alloc | apply Kd.R_drewN | apply Kd.R_drew)); exact HO_10.out) hb); have n2_ := Aside0.mk (Kd.S_lower (Kd.S_new' (Kd.S_new' ho0 (Kd.R_lt (by (with_reducible repeat (first | apply Kd.R_alloc | apply Kd.R_drewN | apply Kd.R_drew)); exact HO_8.out))) (Kd.R_lt (by (with_reducible repeat (first | apply Kd.R_alloc | apply Kd.R_drewN | apply Kd.R_drew)); exact HO_10.out))) (below_size (by repeat (first | (with_reducible first | exact HB.out | apply below_alloc | apply pw_below_drewN | apply below_drew1) | exact HB.out)))); have n3_ := Aside0.mk (below_step (by repeat (first | (with_reducible first | exact HB.out | apply below_alloc | apply pw_below_drewN | apply below_drew1) | exact HB.out)) hb); clear HO_8; clear HO_10; clear HB; have HO_8 := n0_; have HO_10 := n1_; have HO179 := n2_; have HB := n3_; clear n0_ n1_ n2_ n3_; (try clear hb); (try clear hb2); (try clear hk); (try clear hi); (try clear ho0); obtain ⟨Ao44, co44, eo44⟩ := Kd.S_slice HO179.out; subst eo44) | ((with_reducible refine gate_callee (f := 27) rfl ?_); refine goesL_ (some 66) rfl rfl Try.func27 (by kernel_rfl) rfl #[.slice Ao44 t177.length co44, .int .i64 a1, .int .i64 a2] rfl (by (try simp only [List.map_toArray, List.map_cons, List.map_nil]); first | done | rfl | (simp only [List.length_drop, List.length_take]; rfl)) ?_; (with_reducible refine (impl_JoinBlocks.calls _ _ t177 a1 a2 t180 _ ?side1 ?side2 A36.out).mono ?_); (case side1 => repeat (first | exact (Kd.S_reads' HO179.out).2.2 | (with_reducible refine Kd.C_alloc ?_ _) | (with_reducible refine Kd.C_drewN ?_ _) | (with_reducible refine Kd.C_drew ?_))); (case side2 => exact (Kd.S_reads' HO179.out).2.1); rintro e w45 ⟨v181, rfl, ho0, hb⟩; refine ⟨_, rfl, ?_⟩; have n0_ := Aside0.mk (Kd.R_elder' (by (with_reducible repeat (first | apply Kd.R_alloc | apply Kd.R_drewN | apply Kd.R_drew)); exact HO_8.out) (Kd.R_base ho0) hb); have n1_ := Aside0.mk (Kd.R_elder' (by (with_reducible repeat (first | apply Kd.R_alloc | apply Kd.R_drewN | apply Kd.R_drew)); exact HO_10.out) (Kd.R_base ho0) hb); have n2_ := Aside0.mk (Kd.S_elder' (by (with_reducible repeat (first | apply Kd.S_alloc | apply Kd.S_drewN | apply Kd.S_drew)); exact HO179.out) (Kd.R_base ho0) hb); have n3_ := Aside0.mk (Kd.R_lower (Kd.R_new' (Kd.R_new' ho0 (Kd.R_lt (by (with_reducible repeat (first | apply Kd.R_alloc | apply Kd.R_drewN | apply Kd.R_drew)); exact HO_8.out))) (Kd.R_lt (by (with_reducible repeat (first | apply Kd.R_alloc | apply Kd.R_drewN | apply Kd.R_drew)); exact HO_10.out))) (below_size (by repeat (first | (with_reducible first | exact HB.out | apply below_alloc | apply pw_below_drewN | apply below_drew1) | exact HB.out)))); have n4_ := Aside0.mk (below_step (by repeat (first | (with_reducible first | exact HB.out | apply below_alloc | apply pw_below_drewN | apply below_drew1) | exact HB.out)) hb); clear HO_8; clear HO_10; clear HO179; clear HB; have HO_8 := n0_; have HO_10 := n1_; have HO179 := n2_; have HO182 := n3_; have HB := n4_; clear n0_ n1_ n2_ n3_ n4_; (try clear hb); (try clear hb2); (try clear hk); (try clear hi); (try clear ho0); obtain ⟨Ao46, co46, eo46⟩ := Kd.R_slice HO182.out; subst eo46) | ((with_reducible refine gate_callee (f := 20) rfl ?_); refine goesL_ (some 69) rfl rfl Try.func20 (by kernel_rfl) rfl #[.slice Ao46 t180.length co46, .slice Ao24 t157.length co24] rfl (by (try simp only [List.map_toArray, List.map_cons, List.map_nil]); first | done | rfl | (simp only [List.length_drop, List.length_take]; rfl)) ?_; (with_reducible refine (laws_eqIntS.calls kj15 _ _ t180 _ _ t157 true _ ?side1 ?side2 ?side3 ?side4 A37.out).mono ?_); (case side1 => repeat (first | exact (Kd.R_reads' HO182.out).2.2 | (with_reducible refine Kd.C_alloc ?_ _) | (with_reducible refine Kd.C_drewN ?_ _) | (with_reducible refine Kd.C_drew ?_))); (case side2 => exact (Kd.R_reads' HO182.out).2.1); (case side3 => repeat (first | exact (Kd.R_reads' HO_8.out).2.2 | (with_reducible refine Kd.C_alloc ?_ _) | (with_reducible refine Kd.C_drewN ?_ _) | (with_reducible refine Kd.C_drew ?_))); (case side4 => exact (Kd.R_reads' HO_8.out).2.1); rintro e w' ⟨rfl, ⟨nd, rfl⟩⟩; refine ⟨_, rfl, ?_⟩) | ((with_reducible refine gate_callee (f := 28) rfl ?_); refine goesL_ (some 73) rfl rfl Try.func28 (by kernel_rfl) rfl #[.slice Ao23 t175.length co23, .int .i64 1] rfl (by (try simp only [List.map_toArray, List.map_cons, List.map_nil]); first | done | (rw [show t175.length = t163.length from (Kd.R_reads' HO_10.out).1.symm] <;> rfl) | rfl | (simp only [List.length_drop, List.length_take]; rfl)) ?_; (with_reducible refine (laws_heldIntS.calls kj15 _ _ t175 1 t184 _ ?side1 ?side2 A39.out).mono ?_); (case side1 => repeat (first | exact (Kd.R_reads' HO_10.out).2.2 | (with_reducible refine Kd.C_alloc ?_ _) | (with_reducible refine Kd.C_drewN ?_ _) | (with_reducible refine Kd.C_drew ?_))); (case side2 => rw [show t175.length = t163.length from (Kd.R_reads' HO_10.out).1.symm]; exact (Kd.R_reads' HO_10.out).2.1); rintro e w' ⟨rfl, ⟨nd, rfl⟩⟩; refine ⟨_, rfl, ?_⟩))
                        go_ret
                        exact ⟨by first | rfl | (simp [errW_none, errW_some] <;> rfl) | (simp [*, errW_none, errW_some] <;> rfl), by repeat (first | (with_reducible first | exact HB.out | apply below_alloc | apply pw_below_drewN | apply below_drew1) | exact HB.out)⟩
                      · rw [if_neg c41] at H
                        have c41b0 : (t184 == t174) = false := beq_eq_false_iff_ne.mpr c41
                        have c41b1 : (t184 != t174) = true := bne_iff_ne.mpr c41
                        exact noArm H HTRUE_.out
                  · replace c38 := Bool.eq_false_iff.mpr c38
                    subst c38
                    have H1 : (some false) = some r := by rw [if_neg (show ¬ (false = true) by decide)] at H; exact H
                    clear H
                    have H := H1
                    clear H1
                    exact noArm H HTRUE_.out
                · rw [if_neg c34] at H
                  have c34b0 : (t176 == t174) = false := beq_eq_false_iff_ne.mpr c34
                  have c34b1 : (t176 != t174) = true := bne_iff_ne.mpr c34
                  exact noArm H HTRUE_.out
      · replace c14 := Bool.eq_false_iff.mpr c14
        subst c14
        have H1 : (some false) = some r := by rw [if_neg (show ¬ (false = true) by decide)] at H; exact H
        clear H
        have H := H1
        clear H1
        exact noArm H HTRUE_.out
    · replace c11 := Bool.eq_false_iff.mpr c11
      subst c11
      have H1 : (some false) = some r := by rw [if_neg (show ¬ (false = true) by decide)] at H; exact H
      clear H
      have H := H1
      clear H1
      exact noArm H HTRUE_.out


/-- The one pure statement of laws_FnExactJoinBlocks. -/
def laws_FnExactJoinBlocks.Pure : Prop := ∀ (l0 : List (List Int)) (a1 : Int) (a2 : Int), (l0.length ≤ maxLen ∧ ∀ y_12 ∈ l0, (y_12.length ≤ maxLen ∧ ∀ y_7 ∈ y_12, (Lit.int .i64 y_7).wf = true)) → (Lit.int .i64 a1).wf = true → (Lit.int .i64 a2).wf = true → ∃ k, laws_FnExactJoinBlocks.f k l0 a1 a2 = some true
theorem laws_FnExactJoinBlocks.walk (P : laws_FnExactJoinBlocks.Pure) (A0 : Option Addr) (c0 : Nat) (l0 : List (List Int)) (a1 : Int) (a2 : Int) (w : World) (hr0 : Kd.C (Kd.slice 3 (Kd.int .i64)) w A0 l0.length l0) (hc0 : l0.length ≤ c0) (ql0 : (l0.length ≤ maxLen ∧ ∀ y_12 ∈ l0, (y_12.length ≤ maxLen ∧ ∀ y_7 ∈ y_12, (Lit.int .i64 y_7).wf = true))) (qa1 : (Lit.int .i64 a1).wf = true) (qa2 : (Lit.int .i64 a2).wf = true) :
    Calls Try.prog 5 #[.slice A0 l0.length c0, .int .i64 a1, .int .i64 a2] w fun e w' => e = .returned (.bool true) ∧ Below w.heap.size w w' := by
  obtain ⟨k, h⟩ := P l0 a1 a2 ql0 qa1 qa2
  refine (laws_FnExactJoinBlocks.calls k A0 c0 l0 a1 a2 true w hr0 hc0 ⟨rfl⟩ h).mono ?_
  rintro e w' ⟨rfl, hd⟩
  exact ⟨rfl, hd⟩

theorem joinI_length (l : List (List Int)) (w h : Int) : (joinI l w h).length ≤ 16777216 := by
  unfold joinI
  split
  · rename_i hc
    obtain ⟨m1, m2, m3, m4, _⟩ := sides_bounds hc.1.1
    rw [planeL_length]
    have : h.toNat * w.toNat ≤ 1024 * 1024 := Nat.mul_le_mul (by omega) (by omega)
    omega
  · simp
theorem tot_leJ {b : Nat} : ∀ l : List (List Int), (∀ x ∈ l, x.length ≤ b) → tot l ≤ l.length * b
  | [], _ => by simp [tot]
  | x :: l, h => by
    rw [tot_cons, List.length_cons, Nat.succ_mul]
    have h1 := h x List.mem_cons_self
    have h2 := tot_leJ l (fun y hy => h y (List.mem_cons_of_mem _ hy))
    omega
theorem pure_JoinBlocks : laws_FnExactJoinBlocks.Pure := by
  intro l w h hq _ _
  refine Ev.rounds (g := fun k => laws_FnExactJoinBlocks.f k l w h) ?_
  unfold laws_FnExactJoinBlocks.f
  obtain ⟨s, hs, hs2⟩ := szIntSS_f l 1048576 (by omega) (by omega) hq.1 (fun x hx => (hq.2 x hx).1)
  refine evBind hs (evIf (fun _ => Ev.now _) (fun hc => ?_))
  have h5 := hs2 (by omega)
  have hl : l.length ≤ 1048576 := by omega
  have hx : ∀ x ∈ l, x.length ≤ 1048576 := fun x hx => by have := tot_mem hx; omega
  have F1 := sJoinBlocks_f l w h hl
  have F2 : Ev (fun _ => impl_JoinBlocks.f l w h) (joinI l w h) := Ev.now _
  have hlen := joinI_length l w h
  generalize joinI l w h = r at F1 F2 hlen
  have TS := toIntSS_f l hl hx
  have EF := eqIntS_f r (by omega)
  have MF := markIntS_f r 1 (by omega) (by omega)
  have HF := heldIntS_f 1 r.length (by omega) (by omega)
  have htot := tot_leJ l hx
  have hmul : l.length * 1048576 ≤ 1048576 * 1048576 := Nat.mul_le_mul_right _ hl
  obtain ⟨mk, hmk, hmk2⟩ := markIntSS_f l 1 hl (by omega) (by omega)
  refine evBind TS (evBind F1 (evBind TS (evBind F2 (evBind EF (evPos rfl (evBind TS ?_))))))
  refine evBind (eqIntSS_f l (by omega) (fun x hm => by have := hx x hm; omega)) (evPos rfl (evBind hmk (evNeg (by omega) (evBind EF ?_))))
  refine Ev.step (fun k => by rw [laws_FnExactJoinBlocks.j0]) (evNeg (by simp) (evBind MF (evBind HF (evNeg (show ¬ (1 + (r.length : Int) < 0) by omega) (evPos rfl ?_)))))
  refine evBind TS (evBind F2 (evBind EF (evPos rfl (evBind HF (evNeg (show ¬ (1 + (r.length : Int) < 0) by omega) (evPos rfl (Ev.now _)))))))

end Go.Proofs.Ytmgjglegooehbaa.CJ
