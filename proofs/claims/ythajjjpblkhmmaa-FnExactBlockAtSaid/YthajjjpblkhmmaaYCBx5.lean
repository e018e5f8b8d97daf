/- Functions that a law of this seat reaches: written by a program of this session (wip/xprint.py), and by hand. -/
import Derived.Test.YthajjjpblkhmmaaYMac
import Derived.Test.YthajjjpblkhmmaaYCBx0
import Derived.Test.YthajjjpblkhmmaaYCBx3
import Derived.Test.YthajjjpblkhmmaaYCBx4
namespace Go.Proofs.Ythajjjpblkhmmaa.CB
open Go.RowKit Go.Proofs.Ythajjjpblkhmmaa.B Go.Proofs.YthajjjpblkhmmaaW.PrintWords Go.Proofs.YthajjjpblkhmmaaW.PrintLast Go.Proofs.YthajjjpblkhmmaaW.PrintMore
attribute [local go_sem] max2_int min2_int max_two min_two max_three min_three max_four min_four   -- for this text's walks alone
set_option linter.unusedVariables false
set_option linter.unusedSimpArgs false

/-! ### laws_toCoefs: function 56 -/
def laws_toCoefs.f (k : Nat) (l0_0 : List (List (List Int))) : Option ((List (List (List Int)))) := (laws_toIntSSS.f k l0_0).bind fun t171 => (some t171)
set_option maxHeartbeats 8000000 in
set_option maxRecDepth 100000 in
theorem laws_toCoefs.calls (k : Nat) (A0_0 : Option Addr) (c0_0 : Nat) (l0_0 : List (List (List Int))) (r : List (List (List Int))) (w : World) (hr0_0 : Kd.C (Kd.slice 22 (Kd.slice 3 (Kd.int .i64))) w A0_0 l0_0.length l0_0) (hc0_0 : l0_0.length ≤ c0_0) (h : laws_toCoefs.f k l0_0 = some r) :
  Calls Try.prog 56 #[.agg #[.slice A0_0 l0_0.length c0_0]] w fun e w' => ∃ v0_ : Value, e = .returned (.agg #[v0_]) ∧ Kd.S (sliceS 22 (Kd.slice 3 (Kd.int .i64))) 49 w' w.heap.size (fun _ => True) v0_ r ∧ Below w.heap.size w w' := by
 have hu72 := Try.underlying72
 have hu63 := Try.underlying63
 have HR0_0 := aM hr0_0
 have HC0_0 := aM hc0_0
 clear hr0_0 hc0_0
 have HB := aM (Below.refl w.heap.size w)
 have H : ((laws_toIntSSS.f k l0_0).bind fun t171 => (some t171)) = some r := h
 clear h
 obtain ⟨t171, A2, H⟩ := oH H
 obtain rfl := Option.some.inj H
 go_enter Try.func56, Try.ntmps56
 go_wp2_with (first | ((with_reducible refine gate_dst (N := 1) rfl ?_); refine box_event ?hg (N := 1) ?hd (cs := #[.slice A0_0 l0_0.length c0_0]) (t := 72) ?hr ?_; (case hd => rfl); (case hg => rfl); (case hr => first | (go_simp; done) | (go_simp; rfl)); intro gb168 hg w3 hbox hb; have BK168 := aM hbox; have GW168 := aM (zG hg : w.heap.size ≤ gb168); have GE168 := aM (zG hg : w.heap.size ≤ gb168); replace HB := cH HB hb; clear hb hbox hg) | ((with_reducible refine gate_dst (N := 2) rfl ?_); refine box_event ?hg (N := 2) ?hd (cs := #[.slice none 0 0]) (t := 63) ?hr ?_; (case hd => rfl); (case hg => rfl); (case hr => first | (go_simp; done) | (go_simp; rfl)); intro gb169 hg w4 hbox hb; have BK169 := aM hbox; have GW169 := aM (zG hg : w.heap.size ≤ gb169); have GE169 := aM (zG hg : w.heap.size ≤ gb169); replace HB := cH HB hb; have NB168_169 := aM ((zL hg BK168)); have NB169_168 := aM ((zM hg BK168)); replace BK168 := cB BK168 hb; clear hb hbox hg) | ((with_reducible refine gate_dst (N := 3) rfl ?_); refine box_event ?hg (N := 3) ?hd (cs := #[.slice none 0 0]) (t := 63) ?hr ?_; (case hd => rfl); (case hg => rfl); (case hr => first | (go_simp; done) | (go_simp; rfl)); intro gb170 hg w5 hbox hb; have BK170 := aM hbox; have GW170 := aM (zG hg : w.heap.size ≤ gb170); have GE170 := aM (zG hg : w.heap.size ≤ gb170); replace HB := cH HB hb; have NB168_170 := aM ((zL hg BK168)); have NB170_168 := aM ((zM hg BK168)); replace BK168 := cB BK168 hb; have NB169_170 := aM ((zL hg BK169)); have NB170_169 := aM ((zM hg BK169)); replace BK169 := cB BK169 hb; clear hb hbox hg; have hnb6 := NB168_169.out; have hnc6 := NB169_168.out; have hnb7 := NB168_170.out; have hnc7 := NB170_168.out; have hcz8_0 := kk1 BK168; have hfz8_0 := kg1 BK168) | (go_at_call 108; (with_reducible refine (laws_toIntSSS.calls k _ _ l0_0 t171 _ ?side1 ?side2 A2.out).mono ?_); (case side1 => exact zC (Kd.C_below HR0_0.out HB.out)); (case side2 => exact HC0_0.out); rintro e w9 ⟨v172, rfl, ho0, hb⟩; have HO173 := aM (Kd.S_lower ho0 (below_size zH)); replace BK168 := cB BK168 hb; replace BK169 := cB BK169 hb; replace BK170 := cB BK170 hb; replace HB := cH HB hb; (try clear hb); (try clear ho0); obtain ⟨Ao10, co10, eo10⟩ := Kd.S_slice HO173.out; subst eo10; have hnb11 := NB170_169.out; have hnc11 := NB169_170.out; have hcz12_0 := kk1 BK170; have hfz12_0 := kg1 BK170; have hcz13_0 := kk1 BK169; have hfz13_0 := kg1 BK169))
 refine bodyPost_ret (results_cell_row rfl _ _ gb169 63 #[.slice Ao10 t171.length co10] (0, 0) _ rfl (by (with_reducible repeat (first | apply kN | apply kD | apply kA)); refine blk_put (cs := #[.slice none 0 0]) ?_ 0 _ rfl; (with_reducible repeat (first | apply kN | apply kD | apply kA)); refine blk_far ?_ NB169_170.out _; (with_reducible repeat (first | apply kN | apply kD | apply kA)); exact BK169.out) Try.underlying63 rfl (by kernel_rfl)) rfl ?_
 exact ⟨_, zR, by (with_reducible repeat (first | apply Kd.S_alloc | apply Kd.S_drewN | apply Kd.S_drew)); exact Kd.S_mono (Kd.S_far (p := ⟨gb169, 0, none⟩) (Kd.S_far (p := ⟨gb170, 0, none⟩) (Kd.S_types (Kd.S_types HO173.out BK170.out (by decide)) BK169.out (by decide)) (fun _ hk => hk.1.2) (.slice Ao10 t171.length co10)) (fun _ hk => hk.2) (.slice Ao10 t171.length co10)) (fun _ hk => trivial), zH⟩

theorem toCoefs_f (l : List (List (List Int))) (hl : l.length ≤ 1048576) (hx : ∀ x ∈ l, BndS 1048576 x) : Ev (fun k => laws_toCoefs.f k l) l := by
  unfold laws_toCoefs.f
  exact evBind (toIntSSS_f l hl hx) (Ev.now _)

/-! ### spec_l01Between: function 76 -/
def spec_l01Between.f (a0 : Int) (a1 : Int) (a2 : Int) : Option (Bool) := if a0 ≥ a1 then (some (decide (a0 ≤ a2))) else (some false)
set_option maxHeartbeats 8000000 in
set_option maxRecDepth 100000 in
theorem spec_l01Between.calls (a0 : Int) (a1 : Int) (a2 : Int) (r : Bool) (w : World) (h : spec_l01Between.f a0 a1 a2 = some r) :
  Calls Try.prog 76 #[.int .i64 a0, .int .i64 a1, .int .i64 a2] w fun e w' => e = .returned (.bool r) ∧ Drawn0 w w' := by
 have H : (if a0 ≥ a1 then (some (decide (a0 ≤ a2))) else (some false)) = some r := h
 clear h
 by_cases c4 : a0 ≥ a1
 ·rw [if_pos c4] at H
  have c4b0 : decide (a1 ≤ a0) = true := decide_eq_true c4
  clear c4
  obtain rfl := Option.some.inj H
  go_enter Try.func76, Try.ntmps76
  go_wp2
  go_ret
  exact ⟨by first | rfl | (simp; done) | (simp [*]; done), by repeat (first | exact Drawn0.refl _ | apply Drawn0.step)⟩
 ·rw [if_neg c4] at H
  have c4b0 : decide (a1 ≤ a0) = false := decide_eq_false c4
  clear c4
  obtain rfl := Option.some.inj H
  go_enter Try.func76, Try.ntmps76
  go_wp2
  go_ret
  exact ⟨by first | rfl | (simp; done) | (simp [*]; done), by repeat (first | exact Drawn0.refl _ | apply Drawn0.step)⟩

theorem between_f (a b c : Int) : spec_l01Between.f a b c = some (inR a b c) := inR_ite a b c

/-! ### spec_l05Nums: function 117 -/
def spec_l05Nums.l0 : Nat → List Int → Int → Int → Int → Option (Bool)
  | 0, _, _, _, _ => none
  | k + 1, x0, x1, x2, x7 => if x7 < 64 then (if 0 ≤ x7 then (if x7 < (x0.length : Int) then ((spec_l01Between.f (rd x0 x7) x1 x2).bind fun t175 => (if t175 = true then (spec_l05Nums.l0 k x0 x1 x2 (wrap64 (x7 + 1))) else (some false))) else (none)) else (none)) else (some true)
def spec_l05Nums.f (k : Nat) (l0 : List Int) (a1 : Int) (a2 : Int) : Option (Bool) := if (l0.length : Int) = 64 then (spec_l05Nums.l0 k l0 a1 a2 0) else (some false)
set_option maxHeartbeats 8000000 in
set_option maxRecDepth 100000 in
theorem spec_l05Nums.calls (k : Nat) (A0 : Option Addr) (c0 : Nat) (l0 : List Int) (a1 : Int) (a2 : Int) (r : Bool) (w : World) (hr0 : Kd.C (Kd.int .i64) w A0 l0.length l0) (hc0 : l0.length ≤ c0) (h : spec_l05Nums.f k l0 a1 a2 = some r) :
  Calls Try.prog 117 #[.slice A0 l0.length c0, .int .i64 a1, .int .i64 a2] w fun e w' => e = .returned (.bool r) ∧ Drawn0 w w' := by
 have HR0 := aM hr0
 have HC0 := aM hc0
 clear hr0 hc0
 have H : (if (l0.length : Int) = 64 then (spec_l05Nums.l0 k l0 a1 a2 0) else (some false)) = some r := h
 clear h
 by_cases c4 : (l0.length : Int) = 64
 ·rw [if_pos c4] at H
  have c4b0 : ((l0.length : Int) == 64) = true := beq_iff_eq.mpr c4
  have c4b1 : ((l0.length : Int) != 64) = false := bne_eq_false_iff_eq.mpr c4
  clear c4
  have H' := aM H
  clear H
  go_enter Try.func117, Try.ntmps117
  go_wp2
  go_loopg [7] k (fun kq v7 w' => ∃ (x7_1 : Int), v7 = .int .i64 x7_1 ∧ Aside0 (spec_l05Nums.l0 kq l0 a1 a2 x7_1 = some r) ∧ Aside0 (kq ≤ k) ∧ Drawn0 w w')
  case atStart => exact ⟨(0), zS, H', ⟨Nat.le_refl _⟩, by repeat (first | exact Drawn0.refl _ | apply Drawn0.step)⟩
  case round =>
   clear H'
   (try clear c4b0); (try clear c4b1)
   obtain ⟨x7_1, rfl, HA, HK1, ⟨m1, rfl⟩⟩ := hrel
   cases gk with
   | zero => exact absurd HA.out (by simp [spec_l05Nums.l0])
   | succ k1 =>
    have H := HA.out
    clear HA
    simp only [spec_l05Nums.l0] at H
    by_cases c5 : x7_1 < 64
    ·rw [if_pos c5] at H
     have c5b0 : decide (x7_1 < 64) = true := decide_eq_true c5
     clear c5
     by_cases c6 : 0 ≤ x7_1
     ·rw [if_pos c6] at H
      have c6b0 : decide (0 ≤ x7_1) = true := decide_eq_true c6
      clear c6
      by_cases c7 : x7_1 < (l0.length : Int)
      ·rw [if_pos c7] at H
       have c7b0 : decide (x7_1 < (l0.length : Int)) = true := decide_eq_true c7
       clear c7
       obtain ⟨t175, A8, H⟩ := oH H
       by_cases c9 : t175 = true
       ·subst c9
        replace H := iT H
        have H' := aM H
        clear H
        have p174 : 0 ≤ (x7_1 : Int) := zA
        have q174 : x7_1 < (l0.length : Int) := zA
        obtain ⟨ad174, e174, hx174_0⟩ := Kd.at_int HR0.out x7_1 p174 q174
        cases e174
        replace p174 := eq_true p174
        replace q174 := eq_true q174
        go_wp2_with (first | (go_at_call 76; (with_reducible refine (spec_l01Between.calls (rd l0 x7_1) a1 a2 true _ A8.out).mono ?_); rintro e w' ⟨rfl, ⟨nd, rfl⟩⟩))
        go_roundg k1
        case measure => have := HK1.out; omega
        case rel => exact ⟨(wrap64 (x7_1 + 1)), zS, H', ⟨by have := HK1.out; omega⟩, by repeat (first | exact Drawn0.refl _ | apply Drawn0.step)⟩
       ·replace c9 := Bool.eq_false_iff.mpr c9
        subst c9
        replace H := iF H
        obtain rfl := Option.some.inj H
        have p174 : 0 ≤ (x7_1 : Int) := zA
        have q174 : x7_1 < (l0.length : Int) := zA
        obtain ⟨ad174, e174, hx174_0⟩ := Kd.at_int HR0.out x7_1 p174 q174
        cases e174
        replace p174 := eq_true p174
        replace q174 := eq_true q174
        go_wp2_with (first | (go_at_call 76; (with_reducible refine (spec_l01Between.calls (rd l0 x7_1) a1 a2 false _ A8.out).mono ?_); rintro e w' ⟨rfl, ⟨nd, rfl⟩⟩))
        go_ret
        exact ⟨by first | rfl | (simp; done) | (simp [*]; done), by repeat (first | exact Drawn0.refl _ | apply Drawn0.step)⟩
      ·rw [if_neg c7] at H
       exact absurd H (by simp)
     ·rw [if_neg c6] at H
      exact absurd H (by simp)
    ·rw [if_neg c5] at H
     have c5b0 : decide (x7_1 < 64) = false := decide_eq_false c5
     clear c5
     obtain rfl := Option.some.inj H
     go_wp2
     go_ret
     exact ⟨by first | rfl | (simp; done) | (simp [*]; done), by repeat (first | exact Drawn0.refl _ | apply Drawn0.step)⟩
 ·rw [if_neg c4] at H
  have c4b0 : ((l0.length : Int) == 64) = false := beq_eq_false_iff_ne.mpr c4
  have c4b1 : ((l0.length : Int) != 64) = true := bne_iff_ne.mpr c4
  obtain rfl := Option.some.inj H
  go_enter Try.func117, Try.ntmps117
  go_wp2
  go_ret
  exact ⟨by first | rfl | (simp; done) | (simp [*]; done), by repeat (first | exact Drawn0.refl _ | apply Drawn0.step)⟩

def numsB (l : List Int) (lo hi : Int) : Bool := decide ((l.length : Int) = 64) && allR l lo hi
theorem nums_len {l : List Int} {lo hi : Int} (h : numsB l lo hi = true) : l.length = 64 := by
  simp only [numsB, Bool.and_eq_true, decide_eq_true_eq] at h
  omega
theorem sNums_l0 (lo up : Int) (l : List Int) (hl : l.length = 64) : ∀ (d i : Nat), i + d = 64 → Ev (fun k => spec_l05Nums.l0 k l lo up i) (allR (l.drop i) lo up) := by
  intro d
  induction d with
  | zero =>
    intro i hi
    refine Ev.step (fun k => by rw [spec_l05Nums.l0]) ?_
    rw [List.drop_eq_nil_of_le (by omega)]
    exact evNeg (by omega) (Ev.now true)
  | succ d ih =>
    intro i hi
    have h1 : i < l.length := by omega
    refine Ev.step (fun k => by rw [spec_l05Nums.l0]) ?_
    refine evPos (by omega) (evPos (by omega) (evPos (by omega) ?_))
    rw [drop_get h1, rd_nat h1, between_f]
    simp only [Option.bind_some, allR, List.all_cons]
    cases inR l[i] lo up with
    | false => exact evNeg (by simp) (Ev.now false)
    | true =>
      refine evPos rfl ?_
      rw [w64 (by omega) (by omega)]
      exact ih (i + 1) (by omega)
theorem sNums_f (l : List Int) (lo hi : Int) : Ev (fun k => spec_l05Nums.f k l lo hi) (numsB l lo hi) := by
  unfold spec_l05Nums.f numsB
  refine evIf (fun h => ?_) (fun h => ?_)
  · rw [decide_eq_true h, Bool.true_and]
    have := sNums_l0 lo hi l (by omega) 64 0 (by omega)
    simpa using this
  · rw [decide_eq_false h, Bool.false_and]
    exact Ev.now _

/-! ### spec_l11Level: function 70 -/
def spec_l11Level.f (k : Nat) (l0 : List Int) : Option (Bool) := (spec_l05Nums.f k l0 (-16383) 16383).bind fun t176 => (some t176)
set_option maxHeartbeats 8000000 in
set_option maxRecDepth 100000 in
theorem spec_l11Level.calls (k : Nat) (A0 : Option Addr) (c0 : Nat) (l0 : List Int) (r : Bool) (w : World) (hr0 : Kd.C (Kd.int .i64) w A0 l0.length l0) (hc0 : l0.length ≤ c0) (h : spec_l11Level.f k l0 = some r) :
  Calls Try.prog 70 #[.slice A0 l0.length c0] w fun e w' => e = .returned (.bool r) ∧ Drawn0 w w' := by
 have HR0 := aM hr0
 have HC0 := aM hc0
 clear hr0 hc0
 have H : ((spec_l05Nums.f k l0 (-16383) 16383).bind fun t176 => (some t176)) = some r := h
 clear h
 obtain ⟨t176, A2, H⟩ := oH H
 obtain rfl := Option.some.inj H
 go_enter Try.func70, Try.ntmps70
 go_wp2_with (first | (go_at_call 117; (with_reducible refine (spec_l05Nums.calls k _ _ l0 (-16383) 16383 t176 _ ?side1 ?side2 A2.out).mono ?_); (case side1 => exact zC HR0.out); (case side2 => exact HC0.out); rintro e w' ⟨rfl, ⟨nd, rfl⟩⟩))
 go_ret
 exact ⟨by first | rfl | (simp; done) | (simp [*]; done), by repeat (first | exact Drawn0.refl _ | apply Drawn0.step)⟩

theorem sLevel_f (l : List Int) : Ev (fun k => spec_l11Level.f k l) (numsB l (-16383) 16383) := by
  unfold spec_l11Level.f
  exact evBind (sNums_f _ _ _) (Ev.now _)

end Go.Proofs.Ythajjjpblkhmmaa.CB
