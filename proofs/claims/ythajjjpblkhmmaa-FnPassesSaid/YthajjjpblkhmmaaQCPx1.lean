/- Functions that a law of this seat reaches: written by a program of this session (wip/xprint.py), and by hand. -/
import Derived.Test.YthajjjpblkhmmaaQMac
import Derived.Test.YthajjjpblkhmmaaQCPx0
namespace Go.Proofs.Ythajjjpblkhmmaa.CP
open Go.RowKit Go.Proofs.Ythajjjpblkhmmaa.B Go.Proofs.YthajjjpblkhmmaaW.PrintWords Go.Proofs.YthajjjpblkhmmaaW.PrintLast Go.Proofs.YthajjjpblkhmmaaW.PrintMore
attribute [local go_sem] max2_int min2_int max_two min_two max_three min_three max_four min_four   -- for this text's walks alone
set_option linter.unusedVariables false
set_option linter.unusedSimpArgs false

/-! ### spec_l01Between: function 76 -/
def spec_l01Between.f (a0 : Int) (a1 : Int) (a2 : Int) : Option (Bool) := if a0 ≥ a1 then (some (decide (a0 ≤ a2))) else (some false)
set_option maxHeartbeats 8000000 in
set_option maxRecDepth 100000 in
theorem spec_l01Between.calls (a0 : Int) (a1 : Int) (a2 : Int) (r : Bool) (w : World) (h : spec_l01Between.f a0 a1 a2 = some r) :
  Calls Try.prog 76 #[.int .i64 a0, .int .i64 a1, .int .i64 a2] w fun e w' => e = .returned (.bool r) ∧ Drawn0 w w' := by
 have H : (if a0 ≥ a1 then (some (decide (a0 ≤ a2))) else (some false)) = some r := h
 clear h
 by_cases c4 : a0 ≥ a1
 ·rw [if_pos c4] at H
  have c4b0 : decide (a1 ≤ a0) = true := decide_eq_true c4
  clear c4
  obtain rfl := Option.some.inj H
  go_enter Try.func76, Try.ntmps76
  go_wp2
  go_ret
  exact ⟨by first | rfl | (simp; done) | (simp [*]; done), by repeat (first | exact Drawn0.refl _ | apply Drawn0.step)⟩
 ·rw [if_neg c4] at H
  have c4b0 : decide (a1 ≤ a0) = false := decide_eq_false c4
  clear c4
  obtain rfl := Option.some.inj H
  go_enter Try.func76, Try.ntmps76
  go_wp2
  go_ret
  exact ⟨by first | rfl | (simp; done) | (simp [*]; done), by repeat (first | exact Drawn0.refl _ | apply Drawn0.step)⟩

theorem between_f (a b c : Int) : spec_l01Between.f a b c = some (inR a b c) := inR_ite a b c

/-! ### spec_l05Nums: function 117 -/
def spec_l05Nums.l0 : Nat → List Int → Int → Int → Int → Option (Bool)
  | 0, _, _, _, _ => none
  | k + 1, x0, x1, x2, x7 => if x7 < 64 then (if 0 ≤ x7 then (if x7 < (x0.length : Int) then ((spec_l01Between.f (rd x0 x7) x1 x2).bind fun t102 => (if t102 = true then (spec_l05Nums.l0 k x0 x1 x2 (wrap64 (x7 + 1))) else (some false))) else (none)) else (none)) else (some true)
def spec_l05Nums.f (k : Nat) (l0 : List Int) (a1 : Int) (a2 : Int) : Option (Bool) := if (l0.length : Int) = 64 then (spec_l05Nums.l0 k l0 a1 a2 0) else (some false)
set_option maxHeartbeats 8000000 in
set_option maxRecDepth 100000 in
theorem spec_l05Nums.calls (k : Nat) (A0 : Option Addr) (c0 : Nat) (l0 : List Int) (a1 : Int) (a2 : Int) (r : Bool) (w : World) (hr0 : Kd.C (Kd.int .i64) w A0 l0.length l0) (hc0 : l0.length ≤ c0) (h : spec_l05Nums.f k l0 a1 a2 = some r) :
  Calls Try.prog 117 #[.slice A0 l0.length c0, .int .i64 a1, .int .i64 a2] w fun e w' => e = .returned (.bool r) ∧ Drawn0 w w' := by
 have HR0 := aM hr0
 have HC0 := aM hc0
 clear hr0 hc0
 have H : (if (l0.length : Int) = 64 then (spec_l05Nums.l0 k l0 a1 a2 0) else (some false)) = some r := h
 clear h
 by_cases c4 : (l0.length : Int) = 64
 ·rw [if_pos c4] at H
  have c4b0 : ((l0.length : Int) == 64) = true := beq_iff_eq.mpr c4
  have c4b1 : ((l0.length : Int) != 64) = false := bne_eq_false_iff_eq.mpr c4
  clear c4
  have H' := aM H
  clear H
  go_enter Try.func117, Try.ntmps117
  go_wp2
  go_loopg [7] k (fun kq v7 w' => ∃ (x7_1 : Int), v7 = .int .i64 x7_1 ∧ Aside0 (spec_l05Nums.l0 kq l0 a1 a2 x7_1 = some r) ∧ Aside0 (kq ≤ k) ∧ Drawn0 w w')
  case atStart => exact ⟨(0), zS, H', ⟨Nat.le_refl _⟩, by repeat (first | exact Drawn0.refl _ | apply Drawn0.step)⟩
  case round =>
   clear H'
   (try clear c4b0); (try clear c4b1)
   obtain ⟨x7_1, rfl, HA, HK1, ⟨m1, rfl⟩⟩ := hrel
   cases gk with
   | zero => exact absurd HA.out (by simp [spec_l05Nums.l0])
   | succ k1 =>
    have H := HA.out
    clear HA
    simp only [spec_l05Nums.l0] at H
    by_cases c5 : x7_1 < 64
    ·rw [if_pos c5] at H
     have c5b0 : decide (x7_1 < 64) = true := decide_eq_true c5
     clear c5
     by_cases c6 : 0 ≤ x7_1
     ·rw [if_pos c6] at H
      have c6b0 : decide (0 ≤ x7_1) = true := decide_eq_true c6
      clear c6
      by_cases c7 : x7_1 < (l0.length : Int)
      ·rw [if_pos c7] at H
       have c7b0 : decide (x7_1 < (l0.length : Int)) = true := decide_eq_true c7
       clear c7
       obtain ⟨t102, A8, H⟩ := oH H
       by_cases c9 : t102 = true
       ·subst c9
        replace H := iT H
        have H' := aM H
        clear H
        have p101 : 0 ≤ (x7_1 : Int) := zA
        have q101 : x7_1 < (l0.length : Int) := zA
        obtain ⟨ad101, e101, hx101_0⟩ := Kd.at_int HR0.out x7_1 p101 q101
        cases e101
        replace p101 := eq_true p101
        replace q101 := eq_true q101
        go_wp2_with (first | (go_at_call 76; (with_reducible refine (spec_l01Between.calls (rd l0 x7_1) a1 a2 true _ A8.out).mono ?_); rintro e w' ⟨rfl, ⟨nd, rfl⟩⟩))
        go_roundg k1
        case measure => have := HK1.out; omega
        case rel => exact ⟨(wrap64 (x7_1 + 1)), zS, H', ⟨by have := HK1.out; omega⟩, by repeat (first | exact Drawn0.refl _ | apply Drawn0.step)⟩
       ·replace c9 := Bool.eq_false_iff.mpr c9
        subst c9
        replace H := iF H
        obtain rfl := Option.some.inj H
        have p101 : 0 ≤ (x7_1 : Int) := zA
        have q101 : x7_1 < (l0.length : Int) := zA
        obtain ⟨ad101, e101, hx101_0⟩ := Kd.at_int HR0.out x7_1 p101 q101
        cases e101
        replace p101 := eq_true p101
        replace q101 := eq_true q101
        go_wp2_with (first | (go_at_call 76; (with_reducible refine (spec_l01Between.calls (rd l0 x7_1) a1 a2 false _ A8.out).mono ?_); rintro e w' ⟨rfl, ⟨nd, rfl⟩⟩))
        go_ret
        exact ⟨by first | rfl | (simp; done) | (simp [*]; done), by repeat (first | exact Drawn0.refl _ | apply Drawn0.step)⟩
      ·rw [if_neg c7] at H
       exact absurd H (by simp)
     ·rw [if_neg c6] at H
      exact absurd H (by simp)
    ·rw [if_neg c5] at H
     have c5b0 : decide (x7_1 < 64) = false := decide_eq_false c5
     clear c5
     obtain rfl := Option.some.inj H
     go_wp2
     go_ret
     exact ⟨by first | rfl | (simp; done) | (simp [*]; done), by repeat (first | exact Drawn0.refl _ | apply Drawn0.step)⟩
 ·rw [if_neg c4] at H
  have c4b0 : ((l0.length : Int) == 64) = false := beq_eq_false_iff_ne.mpr c4
  have c4b1 : ((l0.length : Int) != 64) = true := bne_iff_ne.mpr c4
  obtain rfl := Option.some.inj H
  go_enter Try.func117, Try.ntmps117
  go_wp2
  go_ret
  exact ⟨by first | rfl | (simp; done) | (simp [*]; done), by repeat (first | exact Drawn0.refl _ | apply Drawn0.step)⟩

def numsB (l : List Int) (lo hi : Int) : Bool := decide ((l.length : Int) = 64) && allR l lo hi
theorem nums_len {l : List Int} {lo hi : Int} (h : numsB l lo hi = true) : l.length = 64 := by
  simp only [numsB, Bool.and_eq_true, decide_eq_true_eq] at h
  omega
theorem nums_all {l : List Int} {lo hi : Int} (h : numsB l lo hi = true) : ∀ y ∈ l, lo ≤ y ∧ y ≤ hi := by
  simp only [numsB, Bool.and_eq_true, allR, List.all_eq_true, inR_iff] at h
  exact h.2
theorem nums_rd {l : List Int} {lo hi : Int} (h : numsB l lo hi = true) (h0 : lo ≤ 0) (h1 : 0 ≤ hi) (i : Int) : lo ≤ rd l i ∧ rd l i ≤ hi := rd_range0 (nums_all h) h0 h1 i
theorem nums_of {l : List Int} {lo hi lo' hi' : Int} (h : numsB l lo hi = true) (h0 : lo' ≤ lo) (h1 : hi ≤ hi') : numsB l lo' hi' = true := by
  simp only [numsB, Bool.and_eq_true, decide_eq_true_eq, allR, List.all_eq_true, inR_iff] at h ⊢
  exact ⟨h.1, fun y hy => by have := h.2 y hy; omega⟩
theorem pow_pos' (m : Nat) : (0 : Int) < 2 ^ m := Int.pow_pos (by omega)
theorem shr_of {x y : Int} (h0 : 0 ≤ y) (h1 : y ≤ 64) : shr .i64 x y = x / 2 ^ y.toNat := by
  unfold shr
  rw [Nat.min_eq_left (by simp [IntKind.bits]; omega)]
theorem pow_small (m : Nat) (h : m ≤ 16) : (2 : Int) ^ m ≤ 65536 := by
  have h4 : (2 : Nat) ^ m ≤ 65536 := Nat.le_trans (Nat.pow_le_pow_right (by omega) h) (by decide)
  have h5 : ((2 ^ m : Nat) : Int) = 2 ^ m := by simp
  rw [← h5]
  exact Int.ofNat_le.2 h4
theorem shl1 (low : Int) (h0 : 0 ≤ low) (h1 : low ≤ 16) : shl .i64 1 low = 2 ^ low.toNat := by
  unfold shl
  rw [Nat.min_eq_left (by simp [IntKind.bits]; omega), i64_w, Int.one_mul]
  have h2 : (2 : Int) ^ low.toNat ≤ 65536 := pow_small _ (by omega)
  have h3 := pow_pos' low.toNat
  exact w64 (by omega) (by omega)
theorem shl1_ne (low : Int) (h0 : 0 ≤ low) (h1 : low ≤ 16) : ¬ shl .i64 1 low = 0 := by
  rw [shl1 low h0 h1]
  have := pow_pos' low.toNat
  omega
theorem sNums_l0 (lo up : Int) (l : List Int) (hl : l.length = 64) : ∀ (d i : Nat), i + d = 64 → Ev (fun k => spec_l05Nums.l0 k l lo up i) (allR (l.drop i) lo up) := by
  intro d
  induction d with
  | zero =>
    intro i hi
    refine Ev.step (fun k => by rw [spec_l05Nums.l0]) ?_
    rw [List.drop_eq_nil_of_le (by omega)]
    exact evNeg (by omega) (Ev.now true)
  | succ d ih =>
    intro i hi
    have h1 : i < l.length := by omega
    refine Ev.step (fun k => by rw [spec_l05Nums.l0]) ?_
    refine evPos (by omega) (evPos (by omega) (evPos (by omega) ?_))
    rw [drop_get h1, rd_nat h1, between_f]
    simp only [Option.bind_some, allR, List.all_cons]
    cases inR l[i] lo up with
    | false => exact evNeg (by simp) (Ev.now false)
    | true =>
      refine evPos rfl ?_
      rw [w64 (by omega) (by omega)]
      exact ih (i + 1) (by omega)
theorem sNums_f (l : List Int) (lo hi : Int) : Ev (fun k => spec_l05Nums.f k l lo hi) (numsB l lo hi) := by
  unfold spec_l05Nums.f numsB
  refine evIf (fun h => ?_) (fun h => ?_)
  · rw [decide_eq_true h, Bool.true_and]
    have := sNums_l0 lo hi l (by omega) 64 0 (by omega)
    simpa using this
  · rw [decide_eq_false h, Bool.false_and]
    exact Ev.now _

/-! ### spec_BlockOk: function 87 -/
def spec_BlockOk.f (k : Nat) (l0 : List Int) : Option (Bool) := (spec_l05Nums.f k l0 (-32767) 32767).bind fun t103 => (some t103)
set_option maxHeartbeats 8000000 in
set_option maxRecDepth 100000 in
theorem spec_BlockOk.calls (k : Nat) (A0 : Option Addr) (c0 : Nat) (l0 : List Int) (r : Bool) (w : World) (hr0 : Kd.C (Kd.int .i64) w A0 l0.length l0) (hc0 : l0.length ≤ c0) (h : spec_BlockOk.f k l0 = some r) :
  Calls Try.prog 87 #[.slice A0 l0.length c0] w fun e w' => e = .returned (.bool r) ∧ Drawn0 w w' := by
 have HR0 := aM hr0
 have HC0 := aM hc0
 clear hr0 hc0
 have H : ((spec_l05Nums.f k l0 (-32767) 32767).bind fun t103 => (some t103)) = some r := h
 clear h
 obtain ⟨t103, A2, H⟩ := oH H
 obtain rfl := Option.some.inj H
 go_enter Try.func87, Try.ntmps87
 go_wp2_with (first | (go_at_call 117; (with_reducible refine (spec_l05Nums.calls k _ _ l0 (-32767) 32767 t103 _ ?side1 ?side2 A2.out).mono ?_); (case side1 => exact zC HR0.out); (case side2 => exact HC0.out); rintro e w' ⟨rfl, ⟨nd, rfl⟩⟩))
 go_ret
 exact ⟨by first | rfl | (simp; done) | (simp [*]; done), by repeat (first | exact Drawn0.refl _ | apply Drawn0.step)⟩

theorem sBlockOk_f (l : List Int) : Ev (fun k => spec_BlockOk.f k l) (numsB l (-32767) 32767) := by
  unfold spec_BlockOk.f
  exact evBind (sNums_f _ _ _) (Ev.now _)

/-! ### spec_ZigZag: function 88 -/
mutual
def spec_ZigZag.l0 : Nat → List Int → Int → Option (List Int)
  | 0, _, _ => none
  | k + 1, x1, x2 => if x2 < 15 then (spec_ZigZag.l1 k x1 x2 0) else (some x1)
def spec_ZigZag.l1 : Nat → List Int → Int → Int → Option (List Int)
  | 0, _, _, _ => none
  | k + 1, x1, x2, x3 => if x3 ≤ x2 then (if (Int.tmod x2 2) = 0 then (if (wrap64 (x2 - x3)) < 8 then (if (wrap64 (x2 - (wrap64 (x2 - x3)))) < 8 then (if x1.length < 17592186044416 then (spec_ZigZag.l1 k (x1 ++ [wrap64 ((wrap64 ((wrap64 (8 * (wrap64 (x2 - x3)))) + x2)) - (wrap64 (x2 - x3)))]) x2 (wrap64 (x3 + 1))) else (none)) else (spec_ZigZag.l1 k x1 x2 (wrap64 (x3 + 1)))) else (spec_ZigZag.l1 k x1 x2 (wrap64 (x3 + 1)))) else (if x3 < 8 then (if (wrap64 (x2 - x3)) < 8 then (if x1.length < 17592186044416 then (spec_ZigZag.l1 k (x1 ++ [wrap64 ((wrap64 ((wrap64 (8 * x3)) + x2)) - x3)]) x2 (wrap64 (x3 + 1))) else (none)) else (spec_ZigZag.l1 k x1 x2 (wrap64 (x3 + 1)))) else (spec_ZigZag.l1 k x1 x2 (wrap64 (x3 + 1))))) else (spec_ZigZag.l0 k x1 (wrap64 (x2 + 1)))
end
def spec_ZigZag.f (k : Nat)  : Option (List Int) := spec_ZigZag.l0 k (([] : List Int)) 0
theorem spec_ZigZag.mono_l : ∀ k, (∀ y0 y1, LeO (spec_ZigZag.l0 k y0 y1) (spec_ZigZag.l0 (k + 1) y0 y1)) ∧ (∀ y0 y1 y2, LeO (spec_ZigZag.l1 k y0 y1 y2) (spec_ZigZag.l1 (k + 1) y0 y1 y2))
 | 0 => ⟨fun _ _ r h => by simp [spec_ZigZag.l0] at h, fun _ _ _ r h => by simp [spec_ZigZag.l1] at h⟩
 | k + 1 => by
  obtain ⟨ih0, ih1⟩ := spec_ZigZag.mono_l k
  refine ⟨?_, ?_⟩
  ·intro y0 y1
   unfold spec_ZigZag.l0
   repeat' first
   | (with_reducible exact ih0 _ _)
   | (with_reducible exact ih1 _ _ _)
   | (with_reducible exact LeO.refl _)
   | (with_reducible exact LeO.none _)
   | (with_reducible refine LeO.ite ?_ ?_)
   | (with_reducible refine LeO.bind ?_ (fun _ => ?_))
   | exact ih0 _ _
   | exact ih1 _ _ _
   | exact LeO.none _
   | refine LeO.ite ?_ ?_
   | refine LeO.bind ?_ (fun _ => ?_)
  ·intro y0 y1 y2
   unfold spec_ZigZag.l1
   repeat' first
   | (with_reducible exact ih0 _ _)
   | (with_reducible exact ih1 _ _ _)
   | (with_reducible exact LeO.refl _)
   | (with_reducible exact LeO.none _)
   | (with_reducible refine LeO.ite ?_ ?_)
   | (with_reducible refine LeO.bind ?_ (fun _ => ?_))
   | exact ih0 _ _
   | exact ih1 _ _ _
   | exact LeO.none _
   | refine LeO.ite ?_ ?_
   | refine LeO.bind ?_ (fun _ => ?_)
theorem spec_ZigZag.mono : ∀ k, LeO (spec_ZigZag.f k ) (spec_ZigZag.f (k + 1) ) := by
 intro  k
 obtain ⟨ih0, ih1⟩ := spec_ZigZag.mono_l k
 unfold spec_ZigZag.f
 repeat' first
   | (with_reducible exact ih0 _ _)
   | (with_reducible exact ih1 _ _ _)
   | (with_reducible exact LeO.refl _)
   | (with_reducible exact LeO.none _)
   | (with_reducible refine LeO.ite ?_ ?_)
   | (with_reducible refine LeO.bind ?_ (fun _ => ?_))
   | exact ih0 _ _
   | exact ih1 _ _ _
   | exact LeO.none _
   | refine LeO.ite ?_ ?_
   | refine LeO.bind ?_ (fun _ => ?_)
set_option maxHeartbeats 8000000 in
set_option maxRecDepth 100000 in
theorem spec_ZigZag.calls (k : Nat)  (r : List Int) (w : World) (h : spec_ZigZag.f k  = some r) :
  Calls Try.prog 88 #[] w fun e w' => ∃ v0_ : Value, e = .returned (v0_) ∧ Kd.R (Kd.int .i64) 3 w' w.heap.size (fun _ => True) v0_ r ∧ Below w.heap.size w w' := by
 have HB := aM (Below.refl w.heap.size w)
 have H : (spec_ZigZag.l0 k (([] : List Int)) 0) = some r := h
 clear h
 obtain ⟨y104, hy104⟩ : ∃ y_ : List Int, y_ = (([] : List Int)) := ⟨_, rfl⟩
 replace H : (spec_ZigZag.l0 k y104 0) = some r := by first | (rw [hy104]; with_reducible exact H) | (have H2_ := (Option.bind_some _ _).symm.trans H; rw [hy104]; with_reducible exact H2_) | (have H2_ := (Option.bind_some _ _).symm.trans H; with_reducible exact H2_) | with_reducible exact H | (rw [hy104]; exact H) | exact H
 have Ny104 := aM hy104
 clear hy104
 have H' := aM H
 clear H
 go_enter Try.func88, Try.ntmps88
 go_wp2_with (first | ((with_reducible refine gate_dst (N := 5) rfl ?_); refine Kd.R_lit (Kd.int .i64) _ 3 ?hg (N := 5) ?hd (xs := ([] : List Int)) (inner := []) (ok := fun _ => True) (okp := fun _ => True) ?hr ?hp (fun _ hk => hk) trivial (Below.refl _ _) (Nat.le_refl _) (by simp) ?_; (case hd => rfl); (case hg => rfl); (case hr => first | (go_simp; done) | (go_simp; rfl)); (case hp => exact (Reps.none _ _)); intro v105 w1 ho2 hb hg_ hnew_; clear hg_ hnew_; (first | rw [← Ny104.out] at ho2 | (simp only [Int.reduceToNat] at ho2; rw [← Ny104.out] at ho2)); have HO106 := aM (Kd.R_lower ho2 (below_size zH)); replace HB := cH HB hb; clear hb ho2))
 go_loopg [1, 2] k (fun kq v1 v2 w' => ∃ (x1_1 : List Int) (x2_1 : Int), v2 = .int .i64 x2_1 ∧ Aside0 (spec_ZigZag.l0 kq x1_1 x2_1 = some r) ∧ Aside0 (kq ≤ k) ∧ Aside0 (Kd.R (Kd.int .i64) 3 w' w.heap.size (fun _ => True) v1 x1_1) ∧ Aside0 (Below w.heap.size w w'))
 case atStart => exact ⟨(y104), (0), zS, H', ⟨Nat.le_refl _⟩, ⟨by (with_reducible repeat (first | apply Kd.R_alloc | apply Kd.R_drewN | apply Kd.R_drew)); exact HO106.out⟩, ⟨zH⟩⟩
 case round =>
  clear H'
  obtain ⟨x1_1, x2_1, rfl, HA, HK1, HO_1, HB⟩ := hrel
  cases gk with
  | zero => exact absurd HA.out (by simp [spec_ZigZag.l0])
  | succ k1 =>
   have H := HA.out
   clear HA
   simp only [spec_ZigZag.l0] at H
   by_cases c3 : x2_1 < 15
   ·rw [if_pos c3] at H
    have c3b0 : decide (x2_1 < 15) = true := decide_eq_true c3
    clear c3
    have H' := aM H
    clear H
    go_wp2
    go_loopg [1, 3] k1 (fun kq v1 v3 w' => ∃ (x1_2 : List Int) (x3_2 : Int), v3 = .int .i64 x3_2 ∧ Aside0 (spec_ZigZag.l1 kq x1_2 x2_1 x3_2 = some r) ∧ Aside0 (kq ≤ k1) ∧ Aside0 (Kd.R (Kd.int .i64) 3 w' w.heap.size (fun _ => True) v1 x1_2) ∧ Aside0 (Below w.heap.size w w'))
    case atStart => exact ⟨(x1_1), (0), zS, H', ⟨Nat.le_refl _⟩, ⟨by (with_reducible repeat (first | apply Kd.R_alloc | apply Kd.R_drewN | apply Kd.R_drew)); exact HO_1.out⟩, ⟨zH⟩⟩
    case round =>
     clear H'
     try clear c3b0
     obtain ⟨x1_2, x3_2, rfl, HA, HK2, HO_1, HB⟩ := hrel
     cases gk with
     | zero => exact absurd HA.out (by simp [spec_ZigZag.l1])
     | succ k2 =>
      have H := HA.out
      clear HA
      simp only [spec_ZigZag.l1] at H
      by_cases c4 : x3_2 ≤ x2_1
      ·rw [if_pos c4] at H
       have c4b0 : decide (x3_2 ≤ x2_1) = true := decide_eq_true c4
       clear c4
       by_cases c5 : (Int.tmod x2_1 2) = 0
       ·rw [if_pos c5] at H
        have c5b0 : ((Int.tmod x2_1 2) == 0) = true := beq_iff_eq.mpr c5
        have c5b1 : ((Int.tmod x2_1 2) != 0) = false := bne_eq_false_iff_eq.mpr c5
        clear c5
        by_cases c6 : (wrap64 (x2_1 - x3_2)) < 8
        ·rw [if_pos c6] at H
         have c6b0 : decide ((wrap64 (x2_1 - x3_2)) < 8) = true := decide_eq_true c6
         clear c6
         by_cases c7 : (wrap64 (x2_1 - (wrap64 (x2_1 - x3_2)))) < 8
         ·rw [if_pos c7] at H
          have c7b0 : decide ((wrap64 (x2_1 - (wrap64 (x2_1 - x3_2)))) < 8) = true := decide_eq_true c7
          clear c7
          by_cases c8 : x1_2.length < 17592186044416
          ·rw [if_pos c8] at H
           have LMc8 := aM c8
           clear c8
           obtain ⟨y107, hy107⟩ : ∃ y_ : List Int, y_ = (x1_2 ++ [wrap64 ((wrap64 ((wrap64 (8 * (wrap64 (x2_1 - x3_2)))) + x2_1)) - (wrap64 (x2_1 - x3_2)))]) := ⟨_, rfl⟩
           replace H : (spec_ZigZag.l1 k2 y107 x2_1 (wrap64 (x3_2 + 1))) = some r := by first | (rw [hy107]; with_reducible exact H) | (have H2_ := (Option.bind_some _ _).symm.trans H; rw [hy107]; with_reducible exact H2_) | (have H2_ := (Option.bind_some _ _).symm.trans H; with_reducible exact H2_) | with_reducible exact H | (rw [hy107]; exact H) | exact H
           have Ny107 := aM hy107
           clear hy107
           have H' := aM H
           clear H
           go_wp2_with (first | ((with_reducible refine gate_builtin (b := .append) (xs := #[.tmp 30, .tmp 37]) rfl ?_); at_builtin; refine Kd.R_append (Kd.int .i64) (w0 := w) w.heap.size rfl (.tmp 30) (.tmp 37) 22 3 (.int .i64 0) 8 rfl Try.underlying22 info3 rfl (by decide) (by omega) u1 x1_2 (wrap64 ((wrap64 ((wrap64 (8 * (wrap64 (x2_1 - x3_2)))) + x2_1)) - (wrap64 (x2_1 - x3_2)))) [.int .i64 (wrap64 ((wrap64 ((wrap64 (8 * (wrap64 (x2_1 - x3_2)))) + x2_1)) - (wrap64 (x2_1 - x3_2))))] (fun _ => True) (fun _ => False) rfl rfl ?aP (fun _ hk => hk.elim) ?aF ?aO ?aB ?aS ?aL ?_; (case aP => exact rfl); (case aB => exact zH); (case aF => exact (fun _ _ => trivial)); (case aO => exact (by (with_reducible repeat (first | apply Kd.R_alloc | apply Kd.R_drewN | apply Kd.R_drew)); exact HO_1.out)); (case aS => exact (below_size zH)); (case aL => have := LMc8.out; omega); intro v108 w9 ho hb hg hat; rw [← Ny107.out] at ho; replace HB := aM (hb); have HO109 := aM (ho); clear HO_1; clear ho hb hg hat))
           go_roundg k2
           case measure => have := HK1.out; have := HK2.out; omega
           case rel => exact ⟨(y107), (wrap64 (x3_2 + 1)), zS, H', ⟨by have := HK1.out; have := HK2.out; omega⟩, ⟨by (with_reducible repeat (first | apply Kd.R_alloc | apply Kd.R_drewN | apply Kd.R_drew)); exact HO109.out⟩, ⟨zH⟩⟩
          ·rw [if_neg c8] at H
           exact absurd H (by simp)
         ·rw [if_neg c7] at H
          have c7b0 : decide ((wrap64 (x2_1 - (wrap64 (x2_1 - x3_2)))) < 8) = false := decide_eq_false c7
          clear c7
          have H' := aM H
          clear H
          go_wp2
          go_roundg k2
          case measure => have := HK1.out; have := HK2.out; omega
          case rel => exact ⟨(x1_2), (wrap64 (x3_2 + 1)), zS, H', ⟨by have := HK1.out; have := HK2.out; omega⟩, ⟨by (with_reducible repeat (first | apply Kd.R_alloc | apply Kd.R_drewN | apply Kd.R_drew)); exact HO_1.out⟩, ⟨zH⟩⟩
        ·rw [if_neg c6] at H
         have c6b0 : decide ((wrap64 (x2_1 - x3_2)) < 8) = false := decide_eq_false c6
         clear c6
         have H' := aM H
         clear H
         go_wp2
         go_roundg k2
         case measure => have := HK1.out; have := HK2.out; omega
         case rel => exact ⟨(x1_2), (wrap64 (x3_2 + 1)), zS, H', ⟨by have := HK1.out; have := HK2.out; omega⟩, ⟨by (with_reducible repeat (first | apply Kd.R_alloc | apply Kd.R_drewN | apply Kd.R_drew)); exact HO_1.out⟩, ⟨zH⟩⟩
       ·rw [if_neg c5] at H
        have c5b0 : ((Int.tmod x2_1 2) == 0) = false := beq_eq_false_iff_ne.mpr c5
        have c5b1 : ((Int.tmod x2_1 2) != 0) = true := bne_iff_ne.mpr c5
        by_cases c10 : x3_2 < 8
        ·rw [if_pos c10] at H
         have c10b0 : decide (x3_2 < 8) = true := decide_eq_true c10
         clear c10
         by_cases c11 : (wrap64 (x2_1 - x3_2)) < 8
         ·rw [if_pos c11] at H
          have c11b0 : decide ((wrap64 (x2_1 - x3_2)) < 8) = true := decide_eq_true c11
          clear c11
          by_cases c12 : x1_2.length < 17592186044416
          ·rw [if_pos c12] at H
           have LMc12 := aM c12
           clear c12
           obtain ⟨y110, hy110⟩ : ∃ y_ : List Int, y_ = (x1_2 ++ [wrap64 ((wrap64 ((wrap64 (8 * x3_2)) + x2_1)) - x3_2)]) := ⟨_, rfl⟩
           replace H : (spec_ZigZag.l1 k2 y110 x2_1 (wrap64 (x3_2 + 1))) = some r := by first | (rw [hy110]; with_reducible exact H) | (have H2_ := (Option.bind_some _ _).symm.trans H; rw [hy110]; with_reducible exact H2_) | (have H2_ := (Option.bind_some _ _).symm.trans H; with_reducible exact H2_) | with_reducible exact H | (rw [hy110]; exact H) | exact H
           have Ny110 := aM hy110
           clear hy110
           have H' := aM H
           clear H
           go_wp2_with (first | ((with_reducible refine gate_builtin (b := .append) (xs := #[.tmp 30, .tmp 37]) rfl ?_); at_builtin; refine Kd.R_append (Kd.int .i64) (w0 := w) w.heap.size rfl (.tmp 30) (.tmp 37) 22 3 (.int .i64 0) 8 rfl Try.underlying22 info3 rfl (by decide) (by omega) u1 x1_2 (wrap64 ((wrap64 ((wrap64 (8 * x3_2)) + x2_1)) - x3_2)) [.int .i64 (wrap64 ((wrap64 ((wrap64 (8 * x3_2)) + x2_1)) - x3_2))] (fun _ => True) (fun _ => False) rfl rfl ?aP (fun _ hk => hk.elim) ?aF ?aO ?aB ?aS ?aL ?_; (case aP => exact rfl); (case aB => exact zH); (case aF => exact (fun _ _ => trivial)); (case aO => exact (by (with_reducible repeat (first | apply Kd.R_alloc | apply Kd.R_drewN | apply Kd.R_drew)); exact HO_1.out)); (case aS => exact (below_size zH)); (case aL => have := LMc12.out; omega); intro v111 w13 ho hb hg hat; rw [← Ny110.out] at ho; replace HB := aM (hb); have HO112 := aM (ho); clear HO_1; clear ho hb hg hat))
           go_roundg k2
           case measure => have := HK1.out; have := HK2.out; omega
           case rel => exact ⟨(y110), (wrap64 (x3_2 + 1)), zS, H', ⟨by have := HK1.out; have := HK2.out; omega⟩, ⟨by (with_reducible repeat (first | apply Kd.R_alloc | apply Kd.R_drewN | apply Kd.R_drew)); exact HO112.out⟩, ⟨zH⟩⟩
          ·rw [if_neg c12] at H
           exact absurd H (by simp)
         ·rw [if_neg c11] at H
          have c11b0 : decide ((wrap64 (x2_1 - x3_2)) < 8) = false := decide_eq_false c11
          clear c11
          have H' := aM H
          clear H
          go_wp2
          go_roundg k2
          case measure => have := HK1.out; have := HK2.out; omega
          case rel => exact ⟨(x1_2), (wrap64 (x3_2 + 1)), zS, H', ⟨by have := HK1.out; have := HK2.out; omega⟩, ⟨by (with_reducible repeat (first | apply Kd.R_alloc | apply Kd.R_drewN | apply Kd.R_drew)); exact HO_1.out⟩, ⟨zH⟩⟩
        ·rw [if_neg c10] at H
         have c10b0 : decide (x3_2 < 8) = false := decide_eq_false c10
         clear c10
         have H' := aM H
         clear H
         go_wp2
         go_roundg k2
         case measure => have := HK1.out; have := HK2.out; omega
         case rel => exact ⟨(x1_2), (wrap64 (x3_2 + 1)), zS, H', ⟨by have := HK1.out; have := HK2.out; omega⟩, ⟨by (with_reducible repeat (first | apply Kd.R_alloc | apply Kd.R_drewN | apply Kd.R_drew)); exact HO_1.out⟩, ⟨zH⟩⟩
      ·rw [if_neg c4] at H
       have c4b0 : decide (x3_2 ≤ x2_1) = false := decide_eq_false c4
       clear c4
       have H' := aM H
       clear H
       go_wp2
       go_roundg k2
       case measure => have := HK1.out; have := HK2.out; omega
       case rel => exact ⟨(x1_2), (wrap64 (x2_1 + 1)), zS, H', ⟨by have := HK1.out; have := HK2.out; omega⟩, ⟨by (with_reducible repeat (first | apply Kd.R_alloc | apply Kd.R_drewN | apply Kd.R_drew)); exact HO_1.out⟩, ⟨zH⟩⟩
   ·rw [if_neg c3] at H
    have c3b0 : decide (x2_1 < 15) = false := decide_eq_false c3
    clear c3
    obtain rfl := Option.some.inj H
    go_wp2
    go_ret
    exact ⟨_, zR, by (with_reducible repeat (first | apply Kd.R_alloc | apply Kd.R_drewN | apply Kd.R_drew)); exact HO_1.out, zH⟩

/-- The places of a block in the order of the passes. -/
def zzL : List Int := [0, 1, 8, 16, 9, 2, 3, 10, 17, 24, 32, 25, 18, 11, 4, 5, 12, 19, 26, 33, 40, 48, 41, 34, 27, 20, 13, 6, 7, 14, 21, 28, 35, 42, 49, 56, 57, 50, 43, 36, 29, 22, 15, 23, 30, 37, 44, 51, 58, 59, 52, 45, 38, 31, 39, 46, 53, 60, 61, 54, 47, 55, 62, 63]
theorem zzL_length : zzL.length = 64 := by decide
theorem zzL_all : ∀ x ∈ zzL, 0 ≤ x ∧ x < 64 := by
  have h : zzL.all (fun x => decide (0 ≤ x) && decide (x < 64)) = true := by decide
  intro x hx
  have := List.all_eq_true.1 h x hx
  simpa using this
theorem zz_rd (i : Nat) (h : i < 64) : 0 ≤ rd zzL i ∧ rd zzL i < 64 := by
  have hl : i < zzL.length := by rw [zzL_length]; exact h
  rw [rd_nat hl]
  exact zzL_all _ (List.getElem_mem hl)
theorem szz_f : Ev (fun k => spec_ZigZag.f k) zzL := Ev.of (g := fun k => spec_ZigZag.f k) (fun k => spec_ZigZag.mono k) (k := 400) (by decide +kernel)

/-! ### spec_ToZig: function 37 -/
def spec_ToZig.l0 : Nat → List Int → List Int → List Int → Int → Option (List Int)
  | 0, _, _, _, _ => none
  | k + 1, x0, x3, x4, x5 => if x5 < 64 then (if 0 ≤ x5 then (if x5 < (x4.length : Int) then (if 0 ≤ (rd x4 x5) then (if (rd x4 x5) < (x0.length : Int) then (if x3.length < 17592186044416 then (spec_ToZig.l0 k x0 (x3 ++ [rd x0 (rd x4 x5)]) x4 (wrap64 (x5 + 1))) else (none)) else (none)) else (none)) else (none)) else (none)) else (some x3)
def spec_ToZig.f (k : Nat) (l0 : List Int) : Option (List Int) := (some (([] : List Int) : List Int)).bind fun y113 => ((spec_BlockOk.f k l0).bind fun t116 => (if t116 = true then ((spec_ZigZag.f k).bind fun t117 => (spec_ToZig.l0 k l0 y113 t117 0)) else (some y113)))
set_option maxHeartbeats 8000000 in
set_option maxRecDepth 100000 in
theorem spec_ToZig.calls (k : Nat) (A0 : Option Addr) (c0 : Nat) (l0 : List Int) (r : List Int) (w : World) (hr0 : Kd.C (Kd.int .i64) w A0 l0.length l0) (hc0 : l0.length ≤ c0) (h : spec_ToZig.f k l0 = some r) :
  Calls Try.prog 37 #[.slice A0 l0.length c0] w fun e w' => ∃ v0_ : Value, e = .returned (v0_) ∧ Kd.R (Kd.int .i64) 3 w' w.heap.size (fun _ => True) v0_ r ∧ Below w.heap.size w w' := by
 have HR0 := aM hr0
 have HC0 := aM hc0
 clear hr0 hc0
 have HB := aM (Below.refl w.heap.size w)
 have H : ((some (([] : List Int) : List Int)).bind fun y113 => ((spec_BlockOk.f k l0).bind fun t116 => (if t116 = true then ((spec_ZigZag.f k).bind fun t117 => (spec_ToZig.l0 k l0 y113 t117 0)) else (some y113)))) = some r := h
 clear h
 obtain ⟨y113, hy113⟩ : ∃ y_ : List Int, y_ = (([] : List Int)) := ⟨_, rfl⟩
 replace H : ((spec_BlockOk.f k l0).bind fun t116 => (if t116 = true then ((spec_ZigZag.f k).bind fun t117 => (spec_ToZig.l0 k l0 y113 t117 0)) else (some y113))) = some r := by first | (rw [hy113]; with_reducible exact H) | (have H2_ := (Option.bind_some _ _).symm.trans H; rw [hy113]; with_reducible exact H2_) | (have H2_ := (Option.bind_some _ _).symm.trans H; with_reducible exact H2_) | with_reducible exact H | (rw [hy113]; exact H) | exact H
 have Ny113 := aM hy113
 clear hy113
 obtain ⟨t116, A2, H⟩ := oH H
 by_cases c3 : t116 = true
 ·subst c3
  replace H := iT H
  obtain ⟨t117, A4, H⟩ := oH H
  have H' := aM H
  clear H
  go_enter Try.func37, Try.ntmps37
  go_wp2_with (first | ((with_reducible refine gate_dst (N := 6) rfl ?_); refine Kd.R_lit (Kd.int .i64) _ 3 ?hg (N := 6) ?hd (xs := ([] : List Int)) (inner := []) (ok := fun _ => True) (okp := fun _ => True) ?hr ?hp (fun _ hk => hk) trivial (Below.refl _ _) (Nat.le_refl _) (by simp) ?_; (case hd => rfl); (case hg => rfl); (case hr => first | (go_simp; done) | (go_simp; rfl)); (case hp => exact (Reps.none _ _)); intro v114 w5 ho6 hb hg_ hnew_; clear hg_ hnew_; (first | rw [← Ny113.out] at ho6 | (simp only [Int.reduceToNat] at ho6; rw [← Ny113.out] at ho6)); have HO115 := aM (Kd.R_lower ho6 (below_size zH)); replace HB := cH HB hb; clear hb ho6) | (go_at_call 87; (with_reducible refine (spec_BlockOk.calls k _ _ l0 true _ ?side1 ?side2 A2.out).mono ?_); (case side1 => exact zC (Kd.C_below HR0.out HB.out)); (case side2 => exact HC0.out); rintro e w' ⟨rfl, ⟨nd, rfl⟩⟩) | (go_at_call 88; (with_reducible refine (spec_ZigZag.calls k  t117 _ A4.out).mono ?_); rintro e w7 ⟨v118, rfl, ho0, hb⟩; have HO119 := aM (Kd.R_lower (Kd.R_new' ho0 (Kd.R_lt (by (with_reducible repeat (first | apply Kd.R_alloc | apply Kd.R_drewN | apply Kd.R_drew)); exact HO115.out))) (below_size zH)); replace HO115 := aM (Kd.R_elder' (by (with_reducible repeat (first | apply Kd.R_alloc | apply Kd.R_drewN | apply Kd.R_drew)); exact HO115.out) (Kd.R_base ho0) hb); replace HB := cH HB hb; (try clear hb); (try clear ho0)))
  go_loopg [3, 5] k (fun kq v3 v5 w' => ∃ (x3_1 : List Int) (x5_1 : Int), v5 = .int .i64 x5_1 ∧ Aside0 (spec_ToZig.l0 kq l0 x3_1 t117 x5_1 = some r) ∧ Aside0 (kq ≤ k) ∧ Aside0 (Kd.R (Kd.int .i64) 3 w' w.heap.size (fun k_ => some k_ ≠ (v118 : Value).ownBlock) v3 x3_1) ∧ Aside0 (Kd.R (Kd.int .i64) 3 w' w.heap.size (fun k_ => some k_ ≠ (v3 : Value).ownBlock) v118 t117) ∧ Aside0 (Below w.heap.size w w'))
  case atStart => exact ⟨(y113), (0), zS, H', ⟨Nat.le_refl _⟩, ⟨by (with_reducible repeat (first | apply Kd.R_alloc | apply Kd.R_drewN | apply Kd.R_drew)); exact Kd.R_mono HO115.out (fun _ hk => hk.2)⟩, ⟨by (with_reducible repeat (first | apply Kd.R_alloc | apply Kd.R_drewN | apply Kd.R_drew)); exact Kd.R_mono HO119.out (fun _ hk => hk.2)⟩, ⟨zH⟩⟩
  case round =>
   clear H'
   try clear c3
   obtain ⟨x3_1, x5_1, rfl, HA, HK1, HO_3, HO_4, HB⟩ := hrel
   cases gk with
   | zero => exact absurd HA.out (by simp [spec_ToZig.l0])
   | succ k1 =>
    have H := HA.out
    clear HA
    simp only [spec_ToZig.l0] at H
    by_cases c8 : x5_1 < 64
    ·rw [if_pos c8] at H
     have c8b0 : decide (x5_1 < 64) = true := decide_eq_true c8
     clear c8
     by_cases c9 : 0 ≤ x5_1
     ·rw [if_pos c9] at H
      have c9b0 : decide (0 ≤ x5_1) = true := decide_eq_true c9
      clear c9
      by_cases c10 : x5_1 < (t117.length : Int)
      ·rw [if_pos c10] at H
       have c10b0 : decide (x5_1 < (t117.length : Int)) = true := decide_eq_true c10
       clear c10
       by_cases c11 : 0 ≤ (rd t117 x5_1)
       ·rw [if_pos c11] at H
        have c11b0 : decide (0 ≤ (rd t117 x5_1)) = true := decide_eq_true c11
        clear c11
        by_cases c12 : (rd t117 x5_1) < (l0.length : Int)
        ·rw [if_pos c12] at H
         have c12b0 : decide ((rd t117 x5_1) < (l0.length : Int)) = true := decide_eq_true c12
         clear c12
         by_cases c13 : x3_1.length < 17592186044416
         ·rw [if_pos c13] at H
          have LMc13 := aM c13
          clear c13
          obtain ⟨y122, hy122⟩ : ∃ y_ : List Int, y_ = (x3_1 ++ [rd l0 (rd t117 x5_1)]) := ⟨_, rfl⟩
          replace H : (spec_ToZig.l0 k1 l0 y122 t117 (wrap64 (x5_1 + 1))) = some r := by first | (rw [hy122]; with_reducible exact H) | (have H2_ := (Option.bind_some _ _).symm.trans H; rw [hy122]; with_reducible exact H2_) | (have H2_ := (Option.bind_some _ _).symm.trans H; with_reducible exact H2_) | with_reducible exact H | (rw [hy122]; exact H) | exact H
          have Ny122 := aM hy122
          clear hy122
          have H' := aM H
          clear H
          obtain ⟨Ao14, co14, eo14⟩ := Kd.R_slice HO_4.out
          subst eo14
          have p120 : 0 ≤ (x5_1 : Int) := zA
          have q120 : x5_1 < (t117.length : Int) := zA
          obtain ⟨ad120, e120, hx120_0⟩ := Kd.at_int (Kd.R_reads' HO_4.out).2.2 x5_1 p120 q120
          cases e120
          replace p120 := eq_true p120
          replace q120 := eq_true q120
          have p121 : 0 ≤ ((rd t117 x5_1) : Int) := zA
          have q121 : (rd t117 x5_1) < (l0.length : Int) := zA
          obtain ⟨ad121, e121, hx121_0⟩ := Kd.at_int HR0.out (rd t117 x5_1) p121 q121
          cases e121
          replace hx121_0 := hX HB hx121_0
          replace p121 := eq_true p121
          replace q121 := eq_true q121
          go_wp2_with (first | ((with_reducible refine gate_builtin (b := .append) (xs := #[.tmp 16, .tmp 24]) rfl ?_); at_builtin; refine Kd.R_append (Kd.int .i64) (w0 := w) w.heap.size rfl (.tmp 16) (.tmp 24) 22 3 (.int .i64 0) 8 rfl Try.underlying22 info3 rfl (by decide) (by omega) u3 x3_1 (rd l0 (rd t117 x5_1)) [.int .i64 (rd l0 (rd t117 x5_1))] (fun k_ => some k_ ≠ (.slice (some ad120) t117.length co14 : Value).ownBlock) (fun _ => False) rfl rfl ?aP (fun _ hk => hk.elim) ?aF ?aO ?aB ?aS ?aL ?_; (case aP => exact rfl); (case aB => exact zH); (case aF => exact (fun k_ hk => Kd.fresh' (Kd.R_lt (by (with_reducible repeat (first | apply Kd.R_alloc | apply Kd.R_drewN | apply Kd.R_drew)); exact HO_4.out)) k_ hk)); (case aO => exact (by (with_reducible repeat (first | apply Kd.R_alloc | apply Kd.R_drewN | apply Kd.R_drew)); exact HO_3.out)); (case aS => exact (below_size zH)); (case aL => have := LMc13.out; omega); intro v123 w15 ho hb hg hat; rw [← Ny122.out] at ho; replace HO_4 := aM (Kd.R_after (ok := (fun _ => True)) (by (with_reducible repeat (first | apply Kd.R_alloc | apply Kd.R_drewN | apply Kd.R_drew)); exact Kd.R_mono HO_4.out (fun _ hk => ⟨trivial, hk⟩)) hg hat); replace HB := aM (hb); have HO124 := aM (ho); clear HO_3; clear ho hb hg hat))
          go_roundg k1
          case measure => have := HK1.out; omega
          case rel => exact ⟨(y122), (wrap64 (x5_1 + 1)), zS, H', ⟨by have := HK1.out; omega⟩, ⟨by (with_reducible repeat (first | apply Kd.R_alloc | apply Kd.R_drewN | apply Kd.R_drew)); exact HO124.out⟩, ⟨by (with_reducible repeat (first | apply Kd.R_alloc | apply Kd.R_drewN | apply Kd.R_drew)); exact Kd.R_mono HO_4.out (fun _ hk => hk.2)⟩, ⟨zH⟩⟩
         ·rw [if_neg c13] at H
          exact absurd H (by simp)
        ·rw [if_neg c12] at H
         exact absurd H (by simp)
       ·rw [if_neg c11] at H
        exact absurd H (by simp)
      ·rw [if_neg c10] at H
       exact absurd H (by simp)
     ·rw [if_neg c9] at H
      exact absurd H (by simp)
    ·rw [if_neg c8] at H
     have c8b0 : decide (x5_1 < 64) = false := decide_eq_false c8
     clear c8
     obtain rfl := Option.some.inj H
     go_wp2
     go_ret
     exact ⟨_, zR, by (with_reducible repeat (first | apply Kd.R_alloc | apply Kd.R_drewN | apply Kd.R_drew)); exact Kd.R_mono HO_3.out (fun _ hk => trivial), zH⟩
 ·replace c3 := Bool.eq_false_iff.mpr c3
  subst c3
  replace H := iF H
  obtain rfl := Option.some.inj H
  go_enter Try.func37, Try.ntmps37
  go_wp2_with (first | ((with_reducible refine gate_dst (N := 6) rfl ?_); refine Kd.R_lit (Kd.int .i64) _ 3 ?hg (N := 6) ?hd (xs := ([] : List Int)) (inner := []) (ok := fun _ => True) (okp := fun _ => True) ?hr ?hp (fun _ hk => hk) trivial (Below.refl _ _) (Nat.le_refl _) (by simp) ?_; (case hd => rfl); (case hg => rfl); (case hr => first | (go_simp; done) | (go_simp; rfl)); (case hp => exact (Reps.none _ _)); intro v114 w16 ho17 hb hg_ hnew_; clear hg_ hnew_; (first | rw [← Ny113.out] at ho17 | (simp only [Int.reduceToNat] at ho17; rw [← Ny113.out] at ho17)); have HO115 := aM (Kd.R_lower ho17 (below_size zH)); replace HB := cH HB hb; clear hb ho17) | (go_at_call 87; (with_reducible refine (spec_BlockOk.calls k _ _ l0 false _ ?side1 ?side2 A2.out).mono ?_); (case side1 => exact zC (Kd.C_below HR0.out HB.out)); (case side2 => exact HC0.out); rintro e w' ⟨rfl, ⟨nd, rfl⟩⟩))
  go_ret
  exact ⟨_, zR, by (with_reducible repeat (first | apply Kd.R_alloc | apply Kd.R_drewN | apply Kd.R_drew)); exact HO115.out, zH⟩

/-- The numbers of a block in the order of the passes. -/
def toZ (l : List Int) : List Int := zzL.map (rd l)
theorem toZ_length (l : List Int) : (toZ l).length = 64 := by unfold toZ; rw [List.length_map, zzL_length]
theorem toZ_rd (l : List Int) (i : Nat) (h : i < 64) : rd (toZ l) i = rd l (rd zzL i) := by
  have hl : i < zzL.length := by rw [zzL_length]; exact h
  rw [rd_nat (by rw [toZ_length]; exact h), rd_nat hl]
  simp [toZ]
theorem toZig_l0 (l : List Int) (hl : l.length = 64) : ∀ (d i : Nat), i + d = 64 → Ev (fun k => spec_ToZig.l0 k l ((zzL.take i).map (rd l)) zzL i) (toZ l) := by
  intro d
  induction d with
  | zero =>
    intro i hi
    refine Ev.step (fun k => by rw [spec_ToZig.l0]) ?_
    rw [List.take_of_length_le (by rw [zzL_length]; omega)]
    exact evNeg (by omega) (Ev.now _)
  | succ d ih =>
    intro i hi
    have hz : i < zzL.length := by rw [zzL_length]; omega
    have hr := zz_rd i (by omega)
    refine Ev.step (fun k => by rw [spec_ToZig.l0]) ?_
    refine evPos (by omega) (evPos (by omega) (evPos (by omega) (evPos hr.1 (evPos (by omega) (evPos (by rw [List.length_map, List.length_take]; omega) ?_)))))
    rw [w64 (by omega) (by omega)]
    have := ih (i + 1) (by omega)
    rw [List.take_succ_eq_append_getElem hz, List.map_append, List.map_singleton, ← rd_nat hz] at this
    exact this
theorem sToZig_f (l : List Int) (h : numsB l (-32767) 32767 = true) : Ev (fun k => spec_ToZig.f k l) (toZ l) := by
  unfold spec_ToZig.f
  simp only [Option.bind_some]
  refine evBind (sBlockOk_f l) (evPos h (evBind szz_f ?_))
  exact toZig_l0 l (nums_len h) 64 0 (by omega)
theorem toZ_small {b : List Int} (h : numsB b (-16383) 16383 = true) (i : Int) : -32767 ≤ rd (toZ b) i ∧ rd (toZ b) i ≤ 32767 := by
  refine rd_range0 (l := toZ b) ?_ (by omega) (by omega) i
  intro y hy
  obtain ⟨x, _, rfl⟩ := List.mem_map.1 hy
  have := nums_rd h (by omega) (by omega) x
  omega

/-! ### spec_l11Level: function 70 -/
def spec_l11Level.f (k : Nat) (l0 : List Int) : Option (Bool) := (spec_l05Nums.f k l0 (-16383) 16383).bind fun t125 => (some t125)
set_option maxHeartbeats 8000000 in
set_option maxRecDepth 100000 in
theorem spec_l11Level.calls (k : Nat) (A0 : Option Addr) (c0 : Nat) (l0 : List Int) (r : Bool) (w : World) (hr0 : Kd.C (Kd.int .i64) w A0 l0.length l0) (hc0 : l0.length ≤ c0) (h : spec_l11Level.f k l0 = some r) :
  Calls Try.prog 70 #[.slice A0 l0.length c0] w fun e w' => e = .returned (.bool r) ∧ Drawn0 w w' := by
 have HR0 := aM hr0
 have HC0 := aM hc0
 clear hr0 hc0
 have H : ((spec_l05Nums.f k l0 (-16383) 16383).bind fun t125 => (some t125)) = some r := h
 clear h
 obtain ⟨t125, A2, H⟩ := oH H
 obtain rfl := Option.some.inj H
 go_enter Try.func70, Try.ntmps70
 go_wp2_with (first | (go_at_call 117; (with_reducible refine (spec_l05Nums.calls k _ _ l0 (-16383) 16383 t125 _ ?side1 ?side2 A2.out).mono ?_); (case side1 => exact zC HR0.out); (case side2 => exact HC0.out); rintro e w' ⟨rfl, ⟨nd, rfl⟩⟩))
 go_ret
 exact ⟨by first | rfl | (simp; done) | (simp [*]; done), by repeat (first | exact Drawn0.refl _ | apply Drawn0.step)⟩

theorem sLevel_f (l : List Int) : Ev (fun k => spec_l11Level.f k l) (numsB l (-16383) 16383) := by
  unfold spec_l11Level.f
  exact evBind (sNums_f _ _ _) (Ev.now _)

/-! ### spec_l12Bits: function 71 -/
def spec_l12Bits.f (l0_0 : List Int) (a0_1 : Int) (a0_2 : Int) (a0_3 : Int) (a0_4 : Int) : Option (Bool) := (spec_l01Between.f a0_1 0 a0_2).bind fun t127 => (if t127 = true then (if a0_2 ≤ 63 then ((spec_l01Between.f a0_4 0 13).bind fun t128 => (if t128 = true then (if a0_3 = 0 then (some true) else (some (a0_3 == (wrap64 (a0_4 + 1))))) else (some false))) else (some false)) else (some false))
set_option maxHeartbeats 8000000 in
set_option maxRecDepth 100000 in
theorem spec_l12Bits.calls (A0_0 : Option Addr) (c0_0 : Nat) (l0_0 : List Int) (a0_1 : Int) (a0_2 : Int) (a0_3 : Int) (a0_4 : Int) (r : Bool) (w : World) (hr0_0 : Kd.C (Kd.int .i64) w A0_0 l0_0.length l0_0) (hc0_0 : l0_0.length ≤ c0_0) (h : spec_l12Bits.f l0_0 a0_1 a0_2 a0_3 a0_4 = some r) :
  Calls Try.prog 71 #[.agg #[.slice A0_0 l0_0.length c0_0, .int .i64 a0_1, .int .i64 a0_2, .int .i64 a0_3, .int .i64 a0_4]] w fun e w' => e = .returned (.bool r) ∧ Below w.heap.size w w' := by
 have hu28 := Try.underlying28
 have HR0_0 := aM hr0_0
 have HC0_0 := aM hc0_0
 clear hr0_0 hc0_0
 have HB := aM (Below.refl w.heap.size w)
 have H : ((spec_l01Between.f a0_1 0 a0_2).bind fun t127 => (if t127 = true then (if a0_2 ≤ 63 then ((spec_l01Between.f a0_4 0 13).bind fun t128 => (if t128 = true then (if a0_3 = 0 then (some true) else (some (a0_3 == (wrap64 (a0_4 + 1))))) else (some false))) else (some false)) else (some false))) = some r := h
 clear h
 obtain ⟨t127, A2, H⟩ := oH H
 by_cases c3 : t127 = true
 ·subst c3
  replace H := iT H
  by_cases c4 : a0_2 ≤ 63
  ·rw [if_pos c4] at H
   have c4b0 : decide (a0_2 ≤ 63) = true := decide_eq_true c4
   clear c4
   obtain ⟨t128, A5, H⟩ := oH H
   by_cases c6 : t128 = true
   ·subst c6
    replace H := iT H
    by_cases c7 : a0_3 = 0
    ·rw [if_pos c7] at H
     have c7b0 : (a0_3 == 0) = true := beq_iff_eq.mpr c7
     have c7b1 : (a0_3 != 0) = false := bne_eq_false_iff_eq.mpr c7
     clear c7
     obtain rfl := Option.some.inj H
     go_enter Try.func71, Try.ntmps71
     go_wp2_with (first | ((with_reducible refine gate_dst (N := 1) rfl ?_); refine box_event ?hg (N := 1) ?hd (cs := #[.slice A0_0 l0_0.length c0_0, .int .i64 a0_1, .int .i64 a0_2, .int .i64 a0_3, .int .i64 a0_4]) (t := 28) ?hr ?_; (case hd => rfl); (case hg => rfl); (case hr => first | (go_simp; done) | (go_simp; rfl)); intro gb126 hg w8 hbox hb; have BK126 := aM hbox; have GW126 := aM (zG hg : w.heap.size ≤ gb126); have GE126 := aM (zG hg : w.heap.size ≤ gb126); replace HB := cH HB hb; clear hb hbox hg; obtain ⟨hcz9_0, hcz9_1, hcz9_2, hcz9_3, hcz9_4⟩ := kk5 BK126; obtain ⟨hfz9_0, hfz9_1, hfz9_2, hfz9_3, hfz9_4⟩ := kg5 BK126) | ((with_reducible refine gate_callee (f := 76) rfl ?_); refine zGl (some 7) Try.func76 #[.int .i64 a0_1, .int .i64 0, .int .i64 a0_2] ?_; (with_reducible refine (spec_l01Between.calls a0_1 0 a0_2 true _ A2.out).mono ?_); rintro e w' ⟨rfl, ⟨nd, rfl⟩⟩; refine ⟨_, rfl, ?_⟩) | (go_at_call 76; (with_reducible refine (spec_l01Between.calls a0_4 0 13 true _ A5.out).mono ?_); rintro e w' ⟨rfl, ⟨nd, rfl⟩⟩))
     go_ret
     exact ⟨zR, zH⟩
    ·rw [if_neg c7] at H
     have c7b0 : (a0_3 == 0) = false := beq_eq_false_iff_ne.mpr c7
     have c7b1 : (a0_3 != 0) = true := bne_iff_ne.mpr c7
     obtain rfl := Option.some.inj H
     go_enter Try.func71, Try.ntmps71
     go_wp2_with (first | ((with_reducible refine gate_dst (N := 1) rfl ?_); refine box_event ?hg (N := 1) ?hd (cs := #[.slice A0_0 l0_0.length c0_0, .int .i64 a0_1, .int .i64 a0_2, .int .i64 a0_3, .int .i64 a0_4]) (t := 28) ?hr ?_; (case hd => rfl); (case hg => rfl); (case hr => first | (go_simp; done) | (go_simp; rfl)); intro gb126 hg w10 hbox hb; have BK126 := aM hbox; have GW126 := aM (zG hg : w.heap.size ≤ gb126); have GE126 := aM (zG hg : w.heap.size ≤ gb126); replace HB := cH HB hb; clear hb hbox hg; obtain ⟨hcz11_0, hcz11_1, hcz11_2, hcz11_3, hcz11_4⟩ := kk5 BK126; obtain ⟨hfz11_0, hfz11_1, hfz11_2, hfz11_3, hfz11_4⟩ := kg5 BK126) | ((with_reducible refine gate_callee (f := 76) rfl ?_); refine zGl (some 7) Try.func76 #[.int .i64 a0_1, .int .i64 0, .int .i64 a0_2] ?_; (with_reducible refine (spec_l01Between.calls a0_1 0 a0_2 true _ A2.out).mono ?_); rintro e w' ⟨rfl, ⟨nd, rfl⟩⟩; refine ⟨_, rfl, ?_⟩) | (go_at_call 76; (with_reducible refine (spec_l01Between.calls a0_4 0 13 true _ A5.out).mono ?_); rintro e w' ⟨rfl, ⟨nd, rfl⟩⟩))
     go_ret
     exact ⟨zR, zH⟩
   ·replace c6 := Bool.eq_false_iff.mpr c6
    subst c6
    replace H := iF H
    obtain rfl := Option.some.inj H
    go_enter Try.func71, Try.ntmps71
    go_wp2_with (first | ((with_reducible refine gate_dst (N := 1) rfl ?_); refine box_event ?hg (N := 1) ?hd (cs := #[.slice A0_0 l0_0.length c0_0, .int .i64 a0_1, .int .i64 a0_2, .int .i64 a0_3, .int .i64 a0_4]) (t := 28) ?hr ?_; (case hd => rfl); (case hg => rfl); (case hr => first | (go_simp; done) | (go_simp; rfl)); intro gb126 hg w12 hbox hb; have BK126 := aM hbox; have GW126 := aM (zG hg : w.heap.size ≤ gb126); have GE126 := aM (zG hg : w.heap.size ≤ gb126); replace HB := cH HB hb; clear hb hbox hg; obtain ⟨hcz13_0, hcz13_1, hcz13_2, hcz13_3, hcz13_4⟩ := kk5 BK126; obtain ⟨hfz13_0, hfz13_1, hfz13_2, hfz13_3, hfz13_4⟩ := kg5 BK126) | ((with_reducible refine gate_callee (f := 76) rfl ?_); refine zGl (some 7) Try.func76 #[.int .i64 a0_1, .int .i64 0, .int .i64 a0_2] ?_; (with_reducible refine (spec_l01Between.calls a0_1 0 a0_2 true _ A2.out).mono ?_); rintro e w' ⟨rfl, ⟨nd, rfl⟩⟩; refine ⟨_, rfl, ?_⟩) | (go_at_call 76; (with_reducible refine (spec_l01Between.calls a0_4 0 13 false _ A5.out).mono ?_); rintro e w' ⟨rfl, ⟨nd, rfl⟩⟩))
    go_ret
    exact ⟨zR, zH⟩
  ·rw [if_neg c4] at H
   have c4b0 : decide (a0_2 ≤ 63) = false := decide_eq_false c4
   clear c4
   obtain rfl := Option.some.inj H
   go_enter Try.func71, Try.ntmps71
   go_wp2_with (first | ((with_reducible refine gate_dst (N := 1) rfl ?_); refine box_event ?hg (N := 1) ?hd (cs := #[.slice A0_0 l0_0.length c0_0, .int .i64 a0_1, .int .i64 a0_2, .int .i64 a0_3, .int .i64 a0_4]) (t := 28) ?hr ?_; (case hd => rfl); (case hg => rfl); (case hr => first | (go_simp; done) | (go_simp; rfl)); intro gb126 hg w14 hbox hb; have BK126 := aM hbox; have GW126 := aM (zG hg : w.heap.size ≤ gb126); have GE126 := aM (zG hg : w.heap.size ≤ gb126); replace HB := cH HB hb; clear hb hbox hg; obtain ⟨hcz15_0, hcz15_1, hcz15_2, hcz15_3, hcz15_4⟩ := kk5 BK126; obtain ⟨hfz15_0, hfz15_1, hfz15_2, hfz15_3, hfz15_4⟩ := kg5 BK126) | ((with_reducible refine gate_callee (f := 76) rfl ?_); refine zGl (some 7) Try.func76 #[.int .i64 a0_1, .int .i64 0, .int .i64 a0_2] ?_; (with_reducible refine (spec_l01Between.calls a0_1 0 a0_2 true _ A2.out).mono ?_); rintro e w' ⟨rfl, ⟨nd, rfl⟩⟩; refine ⟨_, rfl, ?_⟩))
   go_ret
   exact ⟨zR, zH⟩
 ·replace c3 := Bool.eq_false_iff.mpr c3
  subst c3
  replace H := iF H
  obtain rfl := Option.some.inj H
  go_enter Try.func71, Try.ntmps71
  go_wp2_with (first | ((with_reducible refine gate_dst (N := 1) rfl ?_); refine box_event ?hg (N := 1) ?hd (cs := #[.slice A0_0 l0_0.length c0_0, .int .i64 a0_1, .int .i64 a0_2, .int .i64 a0_3, .int .i64 a0_4]) (t := 28) ?hr ?_; (case hd => rfl); (case hg => rfl); (case hr => first | (go_simp; done) | (go_simp; rfl)); intro gb126 hg w16 hbox hb; have BK126 := aM hbox; have GW126 := aM (zG hg : w.heap.size ≤ gb126); have GE126 := aM (zG hg : w.heap.size ≤ gb126); replace HB := cH HB hb; clear hb hbox hg; obtain ⟨hcz17_0, hcz17_1, hcz17_2, hcz17_3, hcz17_4⟩ := kk5 BK126; obtain ⟨hfz17_0, hfz17_1, hfz17_2, hfz17_3, hfz17_4⟩ := kg5 BK126) | ((with_reducible refine gate_callee (f := 76) rfl ?_); refine zGl (some 7) Try.func76 #[.int .i64 a0_1, .int .i64 0, .int .i64 a0_2] ?_; (with_reducible refine (spec_l01Between.calls a0_1 0 a0_2 false _ A2.out).mono ?_); rintro e w' ⟨rfl, ⟨nd, rfl⟩⟩; refine ⟨_, rfl, ?_⟩))
  go_ret
  exact ⟨zR, zH⟩

/-- From, To, High and Low of a scan are as they have to be. -/
def passB (f t h l : Int) : Bool := inR f 0 t && (decide (t ≤ 63) && (inR l 0 13 && (h == 0 || h == wrap64 (l + 1))))
theorem pass_bounds {f t h l : Int} (hb : passB f t h l = true) : 0 ≤ f ∧ f ≤ t ∧ t ≤ 63 ∧ 0 ≤ l ∧ l ≤ 13 ∧ (h = 0 ∨ h = l + 1) := by
  simp only [passB, Bool.and_eq_true, inR_iff, decide_eq_true_eq, Bool.or_eq_true, beq_iff_eq] at hb
  obtain ⟨⟨h1, h2⟩, h3, ⟨h4, h5⟩, h6⟩ := hb
  rw [w64 (by omega) (by omega)] at h6
  exact ⟨h1, h2, h3, h4, h5, h6⟩
theorem l12_f (c : List Int) (f t h l : Int) : spec_l12Bits.f c f t h l = some (passB f t h l) := by
  simp only [spec_l12Bits.f, between_f, Option.bind_some, passB]
  cases inR f 0 t <;> cases inR l 0 13 <;> by_cases h1 : t ≤ 63 <;> by_cases h2 : h = 0 <;> simp [h1, h2]

/-! ### spec_l13Cut: function 72 -/
def spec_l13Cut.f (a0 : Int) (a1 : Int) : Option (Int) := if a0 < 0 then (if 0 ≤ a1 then (some (wrap64 (-(shr .i64 (wrap64 (-a0)) a1)))) else (none)) else (if 0 ≤ a1 then (some (shr .i64 a0 a1)) else (none))
set_option maxHeartbeats 8000000 in
set_option maxRecDepth 100000 in
theorem spec_l13Cut.calls (a0 : Int) (a1 : Int) (r : Int) (w : World) (h : spec_l13Cut.f a0 a1 = some r) :
  Calls Try.prog 72 #[.int .i64 a0, .int .i64 a1] w fun e w' => e = .returned (.int .i64 r) ∧ Drawn0 w w' := by
 have H : (if a0 < 0 then (if 0 ≤ a1 then (some (wrap64 (-(shr .i64 (wrap64 (-a0)) a1)))) else (none)) else (if 0 ≤ a1 then (some (shr .i64 a0 a1)) else (none))) = some r := h
 clear h
 by_cases c3 : a0 < 0
 ·rw [if_pos c3] at H
  have c3b0 : decide (a0 < 0) = true := decide_eq_true c3
  clear c3
  by_cases c4 : 0 ≤ a1
  ·rw [if_pos c4] at H
   have c4b0 := eq_true c4
   have c4b1 : decide (0 ≤ a1) = true := decide_eq_true c4
   clear c4
   obtain ⟨ji5, hji5⟩ : ∃ j_ : Int, (shr .i64 (wrap64 (-a0)) a1) = j_ := ⟨_, rfl⟩
   replace H : (some (wrap64 (-(ji5)))) = some r := by first | (rw [hji5] at H; exact H) | (simp only [hji5] at H ⊢; exact H)
   have hji5_ : ((wrap64 (-a0)) / 2 ^ min a1.toNat 64) = ji5 := hji5
   have hji5z : a1 ≤ 64 → ((wrap64 (-a0)) / 2 ^ a1.toNat) = ji5 := shr_small hji5
   obtain rfl := Option.some.inj H
   go_enter Try.func72, Try.ntmps72
   go_wp2
   go_ret
   exact ⟨by first | rfl | (simp; done) | (simp only [← hji5] <;> (first | rfl | simp)) | (simp [*]; done), by repeat (first | exact Drawn0.refl _ | apply Drawn0.step)⟩
  ·rw [if_neg c4] at H
   exact absurd H (by simp)
 ·rw [if_neg c3] at H
  have c3b0 : decide (a0 < 0) = false := decide_eq_false c3
  clear c3
  by_cases c6 : 0 ≤ a1
  ·rw [if_pos c6] at H
   have c6b0 := eq_true c6
   have c6b1 : decide (0 ≤ a1) = true := decide_eq_true c6
   clear c6
   obtain ⟨ji7, hji7⟩ : ∃ j_ : Int, (shr .i64 a0 a1) = j_ := ⟨_, rfl⟩
   replace H : (some ji7) = some r := by first | (rw [hji7] at H; exact H) | (simp only [hji7] at H ⊢; exact H)
   have hji7_ : (a0 / 2 ^ min a1.toNat 64) = ji7 := hji7
   have hji7z : a1 ≤ 64 → (a0 / 2 ^ a1.toNat) = ji7 := shr_small hji7
   obtain rfl := Option.some.inj H
   go_enter Try.func72, Try.ntmps72
   go_wp2
   go_ret
   exact ⟨by first | rfl | (simp; done) | (simp only [← hji7] <;> (first | rfl | simp)) | (simp [*]; done), by repeat (first | exact Drawn0.refl _ | apply Drawn0.step)⟩
  ·rw [if_neg c6] at H
   exact absurd H (by simp)

end Go.Proofs.Ythajjjpblkhmmaa.CP
