/- Functions that a law of this seat reaches: written by a program of this session (wip/xprint.py), and by hand. -/
import Derived.Test.YtmgjglegooehbaaCJx0
import Derived.Test.YtmgjglegooehbaaCJx2
namespace Go.Proofs.Ytmgjglegooehbaa.CJ
open Go.RowKit Go.Proofs.Ytmgjglegooehbaa.B Go.Proofs.YtmgjglegooehbaaW.PrintWords Go.Proofs.YtmgjglegooehbaaW.PrintLast Go.Proofs.YtmgjglegooehbaaW.PrintMore
attribute [local go_sem] max2_int min2_int max_two min_two max_three min_three max_four min_four   -- for this text's walks alone
set_option linter.unusedVariables false
set_option linter.unusedSimpArgs false

/-! ### impl_plane: function 47 (by hand) -/
/-- A function value, called with two numbers, hands back a number and turns nothing. -/
abbrev Samples (cl : Nat) (lb : Array Value) (g : Int → Int → Int) (w h : Nat) (W : World) : Prop :=
  ∀ (W' : World) (y x : Nat), y < h → x < w → Below W.heap.size W W' → Calls Try.prog cl (#[.int .i64 y, .int .i64 x] ++ lb) W' fun e w' => e = .returned (.int .i64 (g y x)) ∧ Drawn0 W' w'
set_option maxHeartbeats 8000000 in
set_option maxRecDepth 100000 in
theorem impl_plane.calls (cl : Nat) (lb : Array Value) (g : Int → Int → Int) (w h : Nat) (hw : w ≤ 4096) (hh : h ≤ 4096) (W : World)
    (eg : ∀ args w, (callFunc cl args).run Try.prog w = .ok (.enter cl args) w) (hs : Samples cl lb g w h W) :
    Calls Try.prog 47 #[.int .i64 w, .int .i64 h, .func (.func cl) #[] lb] W fun e w' => ∃ v, e = .returned v ∧ Kd.R (Kd.int .i64) 3 w' W.heap.size (fun _ => True) v (planeL g w h) ∧ Below W.heap.size W w' := by
  have HS := Aside0.mk hs
  clear hs
  have HB := Aside0.mk (Below.refl W.heap.size W)
  go_enter Try.func47, Try.ntmps47
  go_wp2_with (first | ((with_reducible refine gate_dst (N := 10) rfl ?_); refine Kd.R_lit (Kd.int .i64) _ 3 ?hg (N := 10) ?hd (xs := ([] : List Int)) (inner := []) (ok := fun _ => True) (okp := fun _ => True) ?hr ?hp (fun _ hk => hk) trivial (Below.refl _ _) (Nat.le_refl _) (by simp) ?_; (case hd => rfl); (case hg => rfl); (case hr => first | (go_simp; done) | (go_simp; rfl)); (case hp => exact (Reps.none _ _)); intro v10 w7 ho8 hb hg_ hnew_; clear hg_ hnew_; have HO := Aside0.mk ho8; have HB2 := Aside0.mk (below_step HB.out hb); clear HB ho8 hb; have HB := HB2; clear HB2))
  have EZ := Aside0.mk (show (0 : Int) = ((0 : Nat) : Int) from rfl)
  go_loopg [7, 12] h (fun kq v7 v12 w' => ∃ (y : Nat), v12 = .int .i64 (y : Int) ∧ Aside0 (y + kq = h) ∧ Aside0 (Kd.R (Kd.int .i64) 3 w' W.heap.size (fun _ => True) v7 (planeL g w y)) ∧ Aside0 (Below W.heap.size W w'))
  case atStart =>
    exact ⟨0, rfl, ⟨by omega⟩, HO, HB⟩
  case round =>
    clear HO HB EZ
    obtain ⟨y, rfl, HK, HO, HB⟩ := hrel
    by_cases c1 : y < h
    · have c1b : decide ((y : Int) < (h : Int)) = true := decide_eq_true (by omega)
      go_wp2
      go_loopg [7, 16] w (fun kq v7 v16 w' => ∃ (x : Nat), v16 = .int .i64 (x : Int) ∧ Aside0 (x + kq = w) ∧ Aside0 (Kd.R (Kd.int .i64) 3 w' W.heap.size (fun _ => True) v7 (planeL g w y ++ rowL g x y)) ∧ Aside0 (Below W.heap.size W w'))
      case atStart =>
        exact ⟨0, rfl, ⟨by omega⟩, ⟨by rw [show rowL g 0 y = [] from rfl, List.append_nil]; exact HO.out⟩, HB⟩
      case round =>
        clear HO HB
        obtain ⟨x, rfl, HX, HO, HB⟩ := hrel
        by_cases c2 : x < w
        · have c2b : decide ((x : Int) < (w : Int)) = true := decide_eq_true (by omega)
          go_wp2_with (first
            | (go_at_fn cl; (with_reducible refine (HS.out _ y x c1 c2 (by repeat (first | (with_reducible first | exact HB.out | apply below_alloc | apply pw_below_drewN | apply below_drew1) | exact HB.out))).mono ?_); rintro e w' ⟨rfl, ⟨nd, rfl⟩⟩)
            | ((with_reducible refine gate_builtin (b := .append) (xs := #[.tmp 19, .tmp 24]) rfl ?_); at_builtin; refine Kd.R_append (Kd.int .i64) (w0 := W) W.heap.size rfl (.tmp 19) (.tmp 24) 41 3 (.int .i64 0) 8 rfl Try.underlying41 info3 rfl (by decide) (by omega) u7 (planeL g w y ++ rowL g x y) (g y x) [.int .i64 (g y x)] (fun _ => True) (fun _ => False) rfl rfl ?aP (fun _ hk => hk.elim) ?aF ?aO ?aB ?aS ?aL ?_; (case aP => exact rfl); (case aB => exact (by repeat (first | (with_reducible first | exact HB.out | apply below_alloc | apply pw_below_drewN | apply below_drew1) | exact HB.out))); (case aF => exact (fun _ _ => trivial)); (case aO => exact (by (with_reducible repeat (first | apply Kd.R_alloc | apply Kd.R_drewN | apply Kd.R_drew)); exact HO.out)); (case aS => exact (below_size (by repeat (first | (with_reducible first | exact HB.out | apply below_alloc | apply pw_below_drewN | apply below_drew1) | exact HB.out)))); (case aL => (rw [List.length_append, planeL_length, rowL_length]; have h1 : y * w ≤ 4096 * 4096 := Nat.mul_le_mul (by omega) hw; omega)); intro v1 w1 ho hb hg hat; have n0_ := Aside0.mk hb; have n1_ := Aside0.mk ho; clear HB; clear HO; have HB := n0_; have HO := n1_; clear n0_ n1_; clear ho hb hg hat))
          go_roundg (w - (x + 1))
          case measure => have := HX.out; omega
          case rel =>
            have e := HX.out
            exact ⟨x + 1, by simp, ⟨by omega⟩, ⟨by rw [rowL_succ, ← List.append_assoc]; exact HO.out⟩, HB⟩
        · have c2b : decide ((x : Int) < (w : Int)) = false := decide_eq_false (by omega)
          go_wp2
          go_roundg (h - (y + 1))
          case measure => have := HK.out; omega
          case rel =>
            have e := HX.out
            have e2 := HK.out
            obtain rfl : x = w := by omega
            exact ⟨y + 1, by simp, ⟨by omega⟩, ⟨by rw [planeL_succ]; exact HO.out⟩, HB⟩
    · have c1b : decide ((y : Int) < (h : Int)) = false := decide_eq_false (by omega)
      go_wp2
      go_ret
      have e2 := HK.out
      obtain rfl : y = h := by omega
      exact ⟨_, rfl, HO.out, HB.out⟩

theorem areSides_calls (a b : Int) (w : World) : Calls Try.prog 43 #[.int .i64 a, .int .i64 b] w fun e w' => e = .returned (.bool (sidesB a b)) ∧ Drawn0 w w' :=
  impl_areSides.calls a b _ w (areSides_f a b)
theorem planeOk_calls (A0 : Option Addr) (c0 : Nat) (l0 : List Int) (a b : Int) (w : World) (hr0 : Kd.C (Kd.int .i64) w A0 l0.length l0) (hc0 : l0.length ≤ c0) :
    Calls Try.prog 38 #[.slice A0 l0.length c0, .int .i64 a, .int .i64 b] w fun e w' => e = .returned (.bool (planeB l0 a b)) ∧ Drawn0 w w' := by
  obtain ⟨k, hk⟩ := (iPlaneOk_f l0 a b (by have := hr0.2.1; unfold maxLen; omega)).rounds
  exact impl_PlaneOk.calls k A0 c0 l0 a b _ w hr0 hc0 hk
theorem two_boxes (w : World) (v0 v1 : Value) (t0 t1 n : Nat) :
    (((w.alloc (.cells #[v0] t0)).alloc (.cells #[v1] t1)).drewN n).cell? ⟨w.heap.size, 0, none⟩ = some v0 ∧
    (((w.alloc (.cells #[v0] t0)).alloc (.cells #[v1] t1)).drewN n).cell? ⟨w.heap.size + 1, 0, none⟩ = some v1 ∧
    (((w.alloc (.cells #[v0] t0)).alloc (.cells #[v1] t1)).drewN n).heap.size = w.heap.size + 2 ∧
    Below w.heap.size w (((w.alloc (.cells #[v0] t0)).alloc (.cells #[v1] t1)).drewN n) := by
  refine ⟨by go_simp, by go_simp, by go_simp, ?_⟩
  repeat (first | exact Below.refl _ _ | apply below_alloc | apply pw_below_drewN | apply below_drew1)
theorem cell_on {W W' : World} (h : Below W.heap.size W W') {g : Nat} {v : Value} (hc : W.cell? ⟨g, 0, none⟩ = some v) : W'.cell? ⟨g, 0, none⟩ = some v :=
  (h.cell (World.block_lt_of_cell? W _ hc)).trans hc

/-! ### impl_JoinBlocks_1: function 45 (by hand) -/
/-- Where the first element lies that a test takes; -1 if there is none. -/
def idxQ {α : Type} (p : α → Bool) : List α → Nat → Int
  | [], _ => -1
  | x :: xs, i => if p x = true then (i : Int) else idxQ p xs (i + 1)
theorem idxQ_none {α : Type} (p : α → Bool) : ∀ (l : List α) (i : Nat), l.any p = false → idxQ p l i = -1
  | [], _, _ => rfl
  | x :: xs, i, h => by
    rw [List.any_cons, Bool.or_eq_false_iff] at h
    rw [idxQ, h.1, if_neg (by simp)]
    exact idxQ_none p xs (i + 1) h.2
theorem idxQ_nonneg {α : Type} (p : α → Bool) : ∀ (l : List α) (i : Nat), decide (0 ≤ idxQ p l i) = l.any p
  | [], _ => rfl
  | x :: xs, i => by
    rw [idxQ, List.any_cons]
    cases h : p x with
    | true => rw [if_pos rfl]; simp
    | false => rw [if_neg (by simp), Bool.false_or]; exact idxQ_nonneg p xs (i + 1)
theorem idxQ_at {α : Type} (p : α → Bool) : ∀ (l : List α) (i k : Nat) (hk : k < l.length), (∀ j (hj : j < l.length), j < k → p l[j] = false) → p l[k] = true → idxQ p l i = ((i + k : Nat) : Int)
  | [], _, k, hk, _, _ => by simp at hk
  | x :: xs, i, 0, _, _, h => by
    have h2 : p x = true := h
    rw [idxQ, if_pos h2]
    simp
  | x :: xs, i, k + 1, hk, h0, h => by
    have hx : p x = false := h0 0 (by simp) (by omega)
    rw [idxQ, hx, if_neg (by simp)]
    have := idxQ_at p xs (i + 1) k (by simpa using hk) (fun j hj hjk => h0 (j + 1) (by simpa using hj) (by omega)) h
    rw [this, show i + 1 + k = i + (k + 1) from by omega]
set_option maxHeartbeats 8000000 in
set_option maxRecDepth 100000 in
theorem indexFunc_SS (cl : Nat) (lb : Array Value) (p : List Int → Bool) (A : Option Addr) (c : Nat) (l : List (List Int)) (W : World) (hr : Kd.C (Kd.slice 3 (Kd.int .i64)) W A l.length l)
    (eg : ∀ args w, (callFunc cl args).run Try.prog w = .ok (.enter cl args) w)
    (hp : ∀ (W' : World) (Ab : Option Addr) (cb : Nat) (b : List Int), Below W.heap.size W W' → Kd.C (Kd.int .i64) W' Ab b.length b → b.length ≤ cb → Calls Try.prog cl (#[.slice Ab b.length cb] ++ lb) W' fun e w' => e = .returned (.bool (p b)) ∧ Below W.heap.size W w') :
    Calls Try.prog 54 #[.slice A l.length c, .func (.func cl) #[] lb] W fun e w' => e = .returned (.int .i64 (idxQ p l 0)) ∧ Below W.heap.size W w' := by
  have hmax := Kd.C_max hr
  have HR := Aside0.mk hr
  have HP := Aside0.mk hp
  clear hr hp
  have HB := Aside0.mk (Below.refl W.heap.size W)
  go_enter Try.func54, Try.ntmps54
  go_wp2
  go_loopg [5, 8] l.length (fun gg _ s8 wr => ∃ kk : Nat, kk ≤ l.length ∧ l.length - kk ≤ gg ∧ s8 = .int .i64 (kk : Int) ∧ Aside0 (Below W.heap.size W wr) ∧ Aside0 (∀ j (hj : j < l.length), j < kk → p l[j] = false))
  case atStart => exact ⟨0, Nat.zero_le _, by omega, rfl, HB, ⟨fun j _ hj => absurd hj (Nat.not_lt_zero _)⟩⟩
  case round =>
    clear HB
    obtain ⟨kk, hkk, hg, rfl, BW, AN⟩ := hrel
    by_cases hlt : kk < l.length
    · have hltz : (kk : Int) < (l.length : Int) := by omega
      have h0z : (0 : Int) ≤ (kk : Int) := by omega
      have d1 : decide ((kk : Int) < (l.length : Int)) = true := decide_eq_true hltz
      have d2 : decide ((0 : Int) ≤ (kk : Int)) = true := decide_eq_true h0z
      obtain ⟨ad, A1, c1, e1, hx0, hl1, hi1⟩ := at_L1 (Kd.C_below HR.out BW.out) (kk : Int) h0z hltz
      cases e1
      rw [Int.toNat_natCast] at hx0
      have EY : Aside0 (rd_L1 l (kk : Int) = l[kk]) := ⟨by simp [rd_L1, List.getD, hlt]⟩
      obtain ⟨xe, hxe⟩ : ∃ xe : List Int, xe = rd_L1 l (kk : Int) := ⟨_, rfl⟩
      rw [← hxe] at hx0 hl1 hi1
      have EX := Aside0.mk hxe
      clear hxe
      have hcall := HP.out wr A1 c1 xe BW.out hi1 hl1
      clear hi1 hl1
      cases hq : p xe with
      | true =>
        rw [hq] at hcall
        have HQ := Aside0.mk hq
        clear hq
        go_wp2_with (go_at_fn cl; refine hcall.mono ?_; rintro e w' ⟨rfl, hb'⟩)
        go_ret
        refine ⟨?_, hb'⟩
        have hh := HQ.out
        rw [EX.out, EY.out] at hh
        have := idxQ_at p l 0 kk hlt AN.out hh
        rw [Nat.zero_add] at this
        rw [this]
        rfl
      | false =>
        rw [hq] at hcall
        have HQ := Aside0.mk hq
        clear hq
        go_wp2_with (go_at_fn cl; refine hcall.mono ?_; rintro e w' ⟨rfl, hb'⟩)
        go_roundg (l.length - (kk + 1))
        case measure => omega
        case rel =>
          refine ⟨kk + 1, by omega, by omega, by go_num, ⟨hb'⟩, ⟨fun j hj hjk => ?_⟩⟩
          by_cases e : j = kk
          · subst e
            have hh := HQ.out
            rwa [EX.out, EY.out] at hh
          · exact AN.out j hj (by omega)
    · have d1 : decide ((kk : Int) < (l.length : Int)) = false := decide_eq_false (by omega)
      go_wp2
      go_ret
      refine ⟨?_, BW.out⟩
      rw [idxQ_none p l 0 (by
        rw [List.any_eq_false]
        intro x hx
        obtain ⟨j, hj, rfl⟩ := List.getElem_of_mem hx
        rw [AN.out j hj (by omega)]
        simp)]
      rfl
set_option maxHeartbeats 8000000 in
set_option maxRecDepth 100000 in
theorem containsFunc_SS (cl : Nat) (lb : Array Value) (p : List Int → Bool) (A : Option Addr) (c : Nat) (l : List (List Int)) (W : World) (hr : Kd.C (Kd.slice 3 (Kd.int .i64)) W A l.length l)
    (eg : ∀ args w, (callFunc cl args).run Try.prog w = .ok (.enter cl args) w)
    (hp : ∀ (W' : World) (Ab : Option Addr) (cb : Nat) (b : List Int), Below W.heap.size W W' → Kd.C (Kd.int .i64) W' Ab b.length b → b.length ≤ cb → Calls Try.prog cl (#[.slice Ab b.length cb] ++ lb) W' fun e w' => e = .returned (.bool (p b)) ∧ Below W.heap.size W w') :
    Calls Try.prog 44 #[.slice A l.length c, .func (.func cl) #[] lb] W fun e w' => e = .returned (.bool (l.any p)) ∧ Below W.heap.size W w' := by
  have HR := Aside0.mk hr
  have HP := Aside0.mk hp
  clear hr hp
  rw [← idxQ_nonneg p l 0]
  go_enter Try.func44, Try.ntmps44
  go_wp2_with (go_at_call 54; refine (indexFunc_SS cl lb p A c l _ HR.out eg HP.out).mono ?_; rintro e w' ⟨rfl, hb'⟩)
  go_ret
  exact ⟨rfl, hb'⟩
set_option maxHeartbeats 8000000 in
set_option maxRecDepth 100000 in
theorem join1_one (A : Option Addr) (c : Nat) (b : List Int) (w W : World) (hb : Below w.heap.size w W) (hr : Kd.C (Kd.int .i64) W A b.length b) (hc : b.length ≤ c) :
    Calls Try.prog 45 (#[.slice A b.length c] ++ #[]) W fun e w' => e = .returned (.bool (!(numsB b 0 4095))) ∧ Below w.heap.size w w' := by
  obtain ⟨k, hk⟩ := (allWithin_f b 0 4095 (by have := hr.2.1; unfold maxLen; omega)).rounds
  have HC := Aside0.mk (impl_allWithin.calls k A c b 0 4095 _ W hr hc hk)
  have HB := Aside0.mk hb
  clear hr hc hb hk
  unfold numsB
  generalize allR b 0 4095 = t at HC ⊢
  by_cases h64 : (b.length : Int) = 64
  · have d1 : ((b.length : Int) != 64) = false := bne_eq_false_iff_eq.mpr h64
    have d2 : ((b.length : Int) == 64) = true := beq_iff_eq.mpr h64
    rw [decide_eq_true h64, Bool.true_and]
    go_enter Try.func45, Try.ntmps45
    go_wp2_with (first | (go_at_call 46; (with_reducible refine HC.out.mono ?_); rintro e w' ⟨rfl, ⟨nd, rfl⟩⟩))
    go_ret
    exact ⟨by first | rfl | (cases t <;> rfl), by repeat (first | exact HB.out | apply below_alloc | apply pw_below_drewN | apply below_drew1)⟩
  · have d1 : ((b.length : Int) != 64) = true := bne_iff_ne.mpr h64
    have d2 : ((b.length : Int) == 64) = false := beq_eq_false_iff_ne.mpr h64
    rw [decide_eq_false h64, Bool.false_and]
    go_enter Try.func45, Try.ntmps45
    go_wp2
    go_ret
    exact ⟨rfl, by repeat (first | exact HB.out | apply below_alloc | apply pw_below_drewN | apply below_drew1)⟩

/-! ### impl_JoinBlocks_2: function 48 (by hand) -/
set_option maxHeartbeats 8000000 in
set_option maxRecDepth 100000 in
theorem join2_walk (g0 g1 : Nat) (ad ad2 : Addr) (len c n2 c2 : Nat) (y x wd m1 m2 m3 m4 m6 v : Int) (i j : Nat) (W : World) (h0 : W.cell? ⟨g0, 0, none⟩ = some (.slice (some ad) len c)) (h1 : W.cell? ⟨g1, 0, none⟩ = some (.int .i64 wd))
    (hx1 : W.cell? (ad.add i) = some (.slice (some ad2) n2 c2)) (hx2 : W.cell? (ad2.add j) = some (.int .i64 v)) (hi : i < len) (hj : j < n2)
    (r1 : wrap64 (y.tdiv 8) = m1) (r2 : wrap64 (wd.tdiv 8) = m2) (r3 : wrap64 (m1 * m2) = m3) (r4 : wrap64 (x.tdiv 8) = m4) (r5 : wrap64 (m3 + m4) = (i : Int)) (r6 : wrap64 (y.tmod 8 * 8) = m6) (r7 : wrap64 (m6 + x.tmod 8) = (j : Int)) :
    Calls Try.prog 48 (#[.int .i64 y, .int .i64 x] ++ #[.pointer (some ⟨g0, 0, none⟩), .pointer (some ⟨g1, 0, none⟩)]) W fun e w' => e = .returned (.int .i64 v) ∧ Drawn0 W w' := by
  have s1 : IntKind.i64.wrap (y.tdiv 8) = m1 := (i64_w _).trans r1
  have s2 : IntKind.i64.wrap (wd.tdiv 8) = m2 := (i64_w _).trans r2
  have s3 : IntKind.i64.wrap (m1 * m2) = m3 := (i64_w _).trans r3
  have s4 : IntKind.i64.wrap (x.tdiv 8) = m4 := (i64_w _).trans r4
  have s5 : IntKind.i64.wrap (m3 + m4) = (i : Int) := (i64_w _).trans r5
  have s6 : IntKind.i64.wrap (y.tmod 8 * 8) = m6 := (i64_w _).trans r6
  have s7 : IntKind.i64.wrap (m6 + x.tmod 8) = (j : Int) := (i64_w _).trans r7
  have j1 : (0 : Int) ≤ (j : Int) := by omega
  have j2 : (j : Int) < (n2 : Int) := by omega
  have i1 : (0 : Int) ≤ (i : Int) := by omega
  have i2 : (i : Int) < (len : Int) := by omega
  go_enter Try.func48, Try.ntmps48
  go_wp2
  try (go_quiet (fail))
  try go_wp2
  go_ret
  exact ⟨rfl, by repeat (first | exact Drawn0.refl _ | apply Drawn0.step)⟩
/-- The sample of a plane that is joined. -/
def joinS (l : List (List Int)) (wd : Int) (y x : Int) : Int := rd (rd_L1 l ((y.toNat / 8 * (wd.toNat / 8) + x.toNat / 8 : Nat) : Int)) ((y.toNat % 8 * 8 + x.toNat % 8 : Nat) : Int)
/-- The places that the code reckons. -/
theorem join_vals {wd y x : Nat} (hw : wd ≤ 4096) (hy : y ≤ 4096) (hx : x ≤ 4096) :
    wrap64 ((y : Int).tdiv 8) = ((y / 8 : Nat) : Int) ∧ wrap64 ((wd : Int).tdiv 8) = ((wd / 8 : Nat) : Int) ∧ wrap64 (((y / 8 : Nat) : Int) * ((wd / 8 : Nat) : Int)) = ((y / 8 * (wd / 8) : Nat) : Int) ∧
    wrap64 ((x : Int).tdiv 8) = ((x / 8 : Nat) : Int) ∧ wrap64 (((y / 8 * (wd / 8) : Nat) : Int) + ((x / 8 : Nat) : Int)) = ((y / 8 * (wd / 8) + x / 8 : Nat) : Int) ∧
    wrap64 ((y : Int).tmod 8 * 8) = ((y % 8 * 8 : Nat) : Int) ∧ wrap64 (((y % 8 * 8 : Nat) : Int) + (x : Int).tmod 8) = ((y % 8 * 8 + x % 8 : Nat) : Int) := by
  have q1 : ((y : Int).tdiv 8) = ((y / 8 : Nat) : Int) := by rw [Int.tdiv_eq_ediv_of_nonneg (by omega)]; omega
  have q2 : ((wd : Int).tdiv 8) = ((wd / 8 : Nat) : Int) := by rw [Int.tdiv_eq_ediv_of_nonneg (by omega)]; omega
  have q4 : ((x : Int).tdiv 8) = ((x / 8 : Nat) : Int) := by rw [Int.tdiv_eq_ediv_of_nonneg (by omega)]; omega
  have q5 : ((y : Int).tmod 8) = ((y % 8 : Nat) : Int) := by rw [Int.tmod_eq_emod_of_nonneg (by omega)]; omega
  have q6 : ((x : Int).tmod 8) = ((x % 8 : Nat) : Int) := by rw [Int.tmod_eq_emod_of_nonneg (by omega)]; omega
  rw [q1, q2, q4, q5, q6]
  clear q1 q2 q4 q5 q6
  have b1 : y / 8 ≤ 512 := by omega
  have b2 : wd / 8 ≤ 512 := by omega
  have b3 : x / 8 ≤ 512 := by omega
  have b4 : y % 8 < 8 := by omega
  have b5 : x % 8 < 8 := by omega
  generalize y / 8 = a at b1 ⊢
  generalize wd / 8 = b at b2 ⊢
  generalize x / 8 = c at b3 ⊢
  generalize y % 8 = d at b4 ⊢
  generalize x % 8 = e at b5 ⊢
  have b6 : a * b ≤ 512 * 512 := Nat.mul_le_mul b1 b2
  refine ⟨w64n (by omega), w64n (by omega), ?_, w64n (by omega), ?_, ?_, ?_⟩
  · rw [← Int.natCast_mul]; exact w64n (by omega)
  · rw [← Int.natCast_add]; exact w64n (by omega)
  · rw [show (d : Int) * 8 = ((d * 8 : Nat) : Int) from by omega]; exact w64n (by omega)
  · rw [← Int.natCast_add]; exact w64n (by omega)
theorem mod_fit (y x : Nat) : y % 8 * 8 + x % 8 < 64 := by omega
set_option maxHeartbeats 8000000 in
theorem join2_gen (g0 g1 : Nat) (A : Option Addr) (c : Nat) (l : List (List Int)) (wd y x m1 m2 m3 m4 m6 : Int) (i j : Nat) (W : World) (h0 : W.cell? ⟨g0, 0, none⟩ = some (.slice A l.length c)) (h1 : W.cell? ⟨g1, 0, none⟩ = some (.int .i64 wd))
    (hr : Kd.C (Kd.slice 3 (Kd.int .i64)) W A l.length l) (hi : i < l.length) (hj : j < 64) (hb : ∀ b ∈ l, b.length = 64)
    (r1 : wrap64 (y.tdiv 8) = m1) (r2 : wrap64 (wd.tdiv 8) = m2) (r3 : wrap64 (m1 * m2) = m3) (r4 : wrap64 (x.tdiv 8) = m4) (r5 : wrap64 (m3 + m4) = (i : Int)) (r6 : wrap64 (y.tmod 8 * 8) = m6) (r7 : wrap64 (m6 + x.tmod 8) = (j : Int)) :
    Calls Try.prog 48 (#[.int .i64 y, .int .i64 x] ++ #[.pointer (some ⟨g0, 0, none⟩), .pointer (some ⟨g1, 0, none⟩)]) W fun e w' => e = .returned (.int .i64 (rd (rd_L1 l (i : Int)) (j : Int))) ∧ Drawn0 W w' := by
  obtain ⟨ad, A1, c1, e1, hx1, hl1, hi1⟩ := at_L1 hr (i : Int) (Int.natCast_nonneg _) (Int.ofNat_lt.mpr hi)
  cases e1
  rw [Int.toNat_natCast] at hx1
  have hlen : (rd_L1 l (i : Int)).length = 64 := by
    have e : rd_L1 l (i : Int) = l[i] := by simp [rd_L1, List.getD, hi]
    rw [e]
    exact hb _ (List.getElem_mem _)
  obtain ⟨b, eb⟩ : ∃ b : List Int, b = rd_L1 l (i : Int) := ⟨_, rfl⟩
  rw [← eb] at hx1 hl1 hi1 hlen ⊢
  clear eb
  obtain ⟨ad2, e2, hx2⟩ := Kd.at_int hi1 (j : Int) (Int.natCast_nonneg _) (by rw [hlen]; exact Int.ofNat_lt.mpr hj)
  cases e2
  rw [Int.toNat_natCast] at hx2
  exact join2_walk g0 g1 ad ad2 l.length c b.length c1 y x wd m1 m2 m3 m4 m6 (rd b (j : Int)) i j W h0 h1 hx1 hx2 hi (by rw [hlen]; exact hj) r1 r2 r3 r4 r5 r6 r7
theorem joinS_nat (l : List (List Int)) (wd y x : Nat) : joinS l wd y x = rd (rd_L1 l ((y / 8 * (wd / 8) + x / 8 : Nat) : Int)) ((y % 8 * 8 + x % 8 : Nat) : Int) := by
  unfold joinS
  rw [Int.toNat_natCast, Int.toNat_natCast, Int.toNat_natCast]
theorem join2_any (g0 g1 : Nat) (A : Option Addr) (c : Nat) (l : List (List Int)) (wd y x : Nat) (W : World) (h0 : W.cell? ⟨g0, 0, none⟩ = some (.slice A l.length c)) (h1 : W.cell? ⟨g1, 0, none⟩ = some (.int .i64 wd))
    (hr : Kd.C (Kd.slice 3 (Kd.int .i64)) W A l.length l) (hw : wd ≤ 4096) (hy : y ≤ 4096) (hx : x ≤ 4096) (hi : y / 8 * (wd / 8) + x / 8 < l.length) (hb : ∀ b ∈ l, b.length = 64) :
    Calls Try.prog 48 (#[.int .i64 y, .int .i64 x] ++ #[.pointer (some ⟨g0, 0, none⟩), .pointer (some ⟨g1, 0, none⟩)]) W fun e w' => e = .returned (.int .i64 (joinS l wd y x)) ∧ Drawn0 W w' := by
  rw [joinS_nat]
  obtain ⟨r1, r2, r3, r4, r5, r6, r7⟩ := join_vals hw hy hx
  exact join2_gen g0 g1 A c l wd y x _ _ _ _ _ _ _ W h0 h1 hr hi (mod_fit y x) hb r1 r2 r3 r4 r5 r6 r7
theorem join_samples (w0 W0 : World) (A : Option Addr) (c : Nat) (l : List (List Int)) (b1 b2 : Nat) (hr : Kd.C (Kd.slice 3 (Kd.int .i64)) w0 A l.length l)
    (H : W0.cell? ⟨w0.heap.size, 0, none⟩ = some (.slice A l.length c) ∧ W0.cell? ⟨w0.heap.size + 1, 0, none⟩ = some (.int .i64 b1) ∧ Below w0.heap.size w0 W0)
    (k1 : b1 ≤ 4096) (k2 : b2 ≤ 4096) (hl : ∀ y x : Nat, y < b2 → x < b1 → y / 8 * (b1 / 8) + x / 8 < l.length) (hb : ∀ b ∈ l, b.length = 64) :
    Samples 48 #[.pointer (some ⟨w0.heap.size, 0, none⟩), .pointer (some ⟨w0.heap.size + 1, 0, none⟩)] (joinS l b1) b1 b2 W0 := by
  obtain ⟨h0, h1, hz⟩ := H
  intro W' y x hy hx hb'
  exact join2_any _ _ A c l b1 y x W' (cell_on hb' h0) (cell_on hb' h1) (Kd.C_below hr (below_step hz hb')) k1 (by omega) (by omega) (hl y x hy hx) hb

/-! ### impl_JoinBlocks: function 27 (by hand) -/
def joinG (l : List (List Int)) (w h : Int) : Prop := sidesB w h = true ∧ Int.tmod w 8 = 0 ∧ Int.tmod h 8 = 0 ∧ (l.length : Int) = wrap64 (Int.tdiv (wrap64 (w * h)) 64)
instance (l : List (List Int)) (w h : Int) : Decidable (joinG l w h) := by unfold joinG; infer_instance
def joinI (l : List (List Int)) (w h : Int) : List Int := if joinG l w h ∧ l.any (fun b => !(numsB b 0 4095)) = false then planeL (joinS l w) w.toNat h.toNat else []
def impl_JoinBlocks.f (l0 : List (List Int)) (a1 a2 : Int) : Option (List Int) := some (joinI l0 a1 a2)
theorem join_fit {l : List (List Int)} {w h : Nat} (hg : joinG l w h) : ∀ y x : Nat, y < h → x < w → y / 8 * (w / 8) + x / 8 < l.length := by
  intro y x hy hx
  obtain ⟨hs, h1, h2, h3⟩ := hg
  obtain ⟨m1, m2, m3, m4, _⟩ := sides_bounds hs
  rw [Int.tmod_eq_emod_of_nonneg (by omega)] at h1 h2
  obtain ⟨a, ha⟩ : ∃ a : Nat, w = 8 * a := ⟨w / 8, by omega⟩
  obtain ⟨b, hb⟩ : ∃ b : Nat, h = 8 * b := ⟨h / 8, by omega⟩
  have hab : a * b ≤ 4096 * 4096 := Nat.mul_le_mul (by omega) (by omega)
  have e1 : (w : Int) * h = ((64 * (a * b) : Nat) : Int) := by rw [ha, hb]; push_cast; rw [show (8 * (a : Int)) * (8 * b) = 64 * (a * b) from by rw [Int.mul_assoc, ← Int.mul_assoc (a : Int) 8 b, Int.mul_comm (a : Int) 8, Int.mul_assoc, ← Int.mul_assoc 8 8]; rfl]
  rw [e1, w64n (by omega), Int.tdiv_eq_ediv_of_nonneg (by omega), show ((64 * (a * b) : Nat) : Int) / 64 = ((a * b : Nat) : Int) from by omega, w64n (by omega)] at h3
  have hl : l.length = a * b := by omega
  rw [hl, show w / 8 = a from by omega]
  have hy8 : y / 8 < b := by omega
  have hx8 : x / 8 < a := by omega
  have h5 : (y / 8 + 1) * a ≤ b * a := Nat.mul_le_mul_right _ (by omega)
  rw [Nat.succ_mul, Nat.mul_comm b a] at h5
  omega
set_option maxHeartbeats 8000000 in
set_option maxRecDepth 100000 in
theorem impl_JoinBlocks.calls (A0 : Option Addr) (c0 : Nat) (l0 : List (List Int)) (a1 : Int) (a2 : Int) (r : List Int) (w : World) (hr0 : Kd.C (Kd.slice 3 (Kd.int .i64)) w A0 l0.length l0) (hc0 : l0.length ≤ c0) (h : impl_JoinBlocks.f l0 a1 a2 = some r) :
    Calls Try.prog 27 #[.slice A0 l0.length c0, .int .i64 a1, .int .i64 a2] w fun e w' => ∃ v0_ : Value, e = .returned (v0_) ∧ Kd.R (Kd.int .i64) 3 w' w.heap.size (fun _ => True) v0_ r ∧ Below w.heap.size w w' := by
  obtain rfl := Option.some.inj h
  clear h
  have HR := Aside0.mk hr0
  have HC := Aside0.mk hc0
  clear hr0 hc0
  have hmf : ∀ (fn : Fn) (first cap : Array Value) (w : World), (Instr.makeFunc fn first cap).run Try.prog w = .ok (.func fn first cap) w := fun _ _ _ _ => rfl
  have HM := Aside0.mk hmf
  clear hmf
  by_cases hs : sidesB a1 a2 = true
  · by_cases h8 : Int.tmod a1 8 = 0
    · by_cases h9 : Int.tmod a2 8 = 0
      · by_cases hl : (l0.length : Int) = wrap64 (Int.tdiv (wrap64 (a1 * a2)) 64)
        · cases ha : l0.any (fun b => !(numsB b 0 4095)) with
          | true =>
            have HE := Aside0.mk (show joinI l0 a1 a2 = [] from by unfold joinI; rw [if_neg (fun h => by rw [ha] at h; exact absurd h.2 (by simp))])
            have HS := Aside0.mk hs
            have HA := Aside0.mk ha
            have d8 : (Int.tmod a1 8 != 0) = false := bne_eq_false_iff_eq.mpr h8
            have d9 : (Int.tmod a2 8 != 0) = false := bne_eq_false_iff_eq.mpr h9
            have dl : ((l0.length : Int) != wrap64 (Int.tdiv (wrap64 (a1 * a2)) 64)) = false := bne_eq_false_iff_eq.mpr hl
            have dl2 : ((l0.length : Int) != IntKind.i64.wrap (Int.tdiv (IntKind.i64.wrap (a1 * a2)) 64)) = false := by rw [i64_w, i64_w]; exact dl
            clear hs ha h8 h9 hl
            rw [HE.out]
            clear HE
            have hmf := HM.out
            go_enter Try.func27, Try.ntmps27
            go_wp2_with (first
              | (go_at_call 43; (with_reducible refine (boolCall (areSides_calls _ _ _) HS.out).mono ?_); rintro e w' ⟨rfl, ⟨nd, rfl⟩⟩)
              | (go_at_call 44; refine (containsFunc_SS 45 _ (fun b => !(numsB b 0 4095)) A0 c0 l0 _ (by repeat (first | exact HR.out | (with_reducible refine Kd.C_alloc ?_ _) | (with_reducible refine Kd.C_drewN ?_ _) | (with_reducible refine Kd.C_drew ?_))) (enters_of Try.func45 (by kernel_rfl) rfl) (fun W' Ab cb b hb hr hc => join1_one Ab cb b _ W' hb hr hc)).mono ?_; rw [HA.out]; rintro e w' ⟨rfl, hb'⟩; have HB := Aside0.mk hb'; clear hb'))
            go_ret
            exact ⟨_, rfl, Kd.R_nil _ _ _ _ _, below_step (by repeat (first | exact Below.refl _ _ | apply below_alloc | apply pw_below_drewN | apply below_drew1)) HB.out⟩
          | false =>
            obtain ⟨m1, m2, m3, m4, _⟩ := sides_bounds hs
            have HG : Aside0 (joinG l0 a1 a2) := ⟨⟨hs, h8, h9, hl⟩⟩
            have HE := Aside0.mk (show joinI l0 a1 a2 = planeL (joinS l0 a1) a1.toNat a2.toNat from by unfold joinI; rw [if_pos ⟨HG.out, ha⟩])
            have HS := Aside0.mk hs
            have HA := Aside0.mk ha
            have d8 : (Int.tmod a1 8 != 0) = false := bne_eq_false_iff_eq.mpr h8
            have d9 : (Int.tmod a2 8 != 0) = false := bne_eq_false_iff_eq.mpr h9
            have dl : ((l0.length : Int) != wrap64 (Int.tdiv (wrap64 (a1 * a2)) 64)) = false := bne_eq_false_iff_eq.mpr hl
            have dl2 : ((l0.length : Int) != IntKind.i64.wrap (Int.tdiv (IntKind.i64.wrap (a1 * a2)) 64)) = false := by rw [i64_w, i64_w]; exact dl
            clear hs ha h8 h9 hl
            obtain ⟨b1, rfl⟩ := Int.eq_ofNat_of_zero_le (show 0 ≤ a1 by omega)
            obtain ⟨b2, rfl⟩ := Int.eq_ofNat_of_zero_le (show 0 ≤ a2 by omega)
            have d8b : ((b1 : Int) % 8 != 0) = false := by rw [← Int.tmod_eq_emod_of_nonneg (by omega)]; exact d8
            have d9b : ((b2 : Int) % 8 != 0) = false := by rw [← Int.tmod_eq_emod_of_nonneg (by omega)]; exact d9
            rw [HE.out]
            clear HE
            have hmf := HM.out
            go_enter Try.func27, Try.ntmps27
            go_wp2_with (first
              | (go_at_call 43; (with_reducible refine (boolCall (areSides_calls _ _ _) HS.out).mono ?_); rintro e w' ⟨rfl, ⟨nd, rfl⟩⟩)
              | (go_at_call 44; refine (containsFunc_SS 45 _ (fun b => !(numsB b 0 4095)) A0 c0 l0 _ (by repeat (first | exact HR.out | (with_reducible refine Kd.C_alloc ?_ _) | (with_reducible refine Kd.C_drewN ?_ _) | (with_reducible refine Kd.C_drew ?_))) (enters_of Try.func45 (by kernel_rfl) rfl) (fun W' Ab cb b hb hr hc => join1_one Ab cb b _ W' hb hr hc)).mono ?_; rw [HA.out]; rintro e w' ⟨rfl, hb'⟩; have hq0 := cell_on hb' (two_boxes w (.slice A0 l0.length c0) (.int .i64 (b1 : Int)) 22 3 _).1; have hq1 := cell_on hb' (two_boxes w (.slice A0 l0.length c0) (.int .i64 (b1 : Int)) 22 3 _).2.1; have HB := Aside0.mk hb'; clear hb'))
            go_at_call 47
            refine (impl_plane.calls 48 _ _ b1 b2 (by omega) (by omega) _ (enters_of Try.func48 (by kernel_rfl) rfl) (join_samples w _ A0 c0 l0 b1 b2 HR.out ⟨cell_on HB.out (two_boxes w _ _ 22 3 _).1, cell_on HB.out (two_boxes w _ _ 22 3 _).2.1, below_step (two_boxes w _ _ 22 3 _).2.2.2 HB.out⟩ (by omega) (by omega) (join_fit HG.out) ?_)).mono ?_
            · intro b hbm
              have h5 := HA.out
              rw [List.any_eq_false] at h5
              have h6 := h5 b hbm
              exact nums_len (lo := 0) (hi := 4095) (by simpa using h6)
            · rintro e w1 ⟨v, rfl, ho, hb⟩
              have HO := Aside0.mk ho
              have HB2 := Aside0.mk hb
              clear ho hb
              go_wp2
              go_ret
              exact ⟨_, rfl, Kd.R_lower HO.out (below_step (two_boxes w _ _ 22 3 _).2.2.2 HB.out).size, below_step (below_step (two_boxes w _ _ 22 3 _).2.2.2 HB.out) HB2.out⟩
        · have HS := Aside0.mk hs
          have d8 : (Int.tmod a1 8 != 0) = false := bne_eq_false_iff_eq.mpr h8
          have d9 : (Int.tmod a2 8 != 0) = false := bne_eq_false_iff_eq.mpr h9
          have dl : ((l0.length : Int) != wrap64 (Int.tdiv (wrap64 (a1 * a2)) 64)) = true := bne_iff_ne.mpr hl
          have dl2 : ((l0.length : Int) != IntKind.i64.wrap (Int.tdiv (IntKind.i64.wrap (a1 * a2)) 64)) = true := by rw [i64_w, i64_w]; exact dl
          have HE := Aside0.mk (show joinI l0 a1 a2 = [] from by unfold joinI; rw [if_neg (fun h => hl h.1.2.2.2)])
          clear hs h8 h9 hl
          rw [HE.out]
          clear HE
          have hmf := HM.out
          go_enter Try.func27, Try.ntmps27
          go_wp2_with (first | (go_at_call 43; (with_reducible refine (boolCall (areSides_calls _ _ _) HS.out).mono ?_); rintro e w' ⟨rfl, ⟨nd, rfl⟩⟩))
          go_ret
          exact ⟨_, rfl, Kd.R_nil _ _ _ _ _, by repeat (first | exact Below.refl _ _ | apply below_alloc | apply pw_below_drewN | apply below_drew1)⟩
      · have HS := Aside0.mk hs
        have d8 : (Int.tmod a1 8 != 0) = false := bne_eq_false_iff_eq.mpr h8
        have d9 : (Int.tmod a2 8 != 0) = true := bne_iff_ne.mpr h9
        have HE := Aside0.mk (show joinI l0 a1 a2 = [] from by unfold joinI; rw [if_neg (fun h => h9 h.1.2.2.1)])
        clear hs h8 h9
        rw [HE.out]
        clear HE
        have hmf := HM.out
        go_enter Try.func27, Try.ntmps27
        go_wp2_with (first | (go_at_call 43; (with_reducible refine (boolCall (areSides_calls _ _ _) HS.out).mono ?_); rintro e w' ⟨rfl, ⟨nd, rfl⟩⟩))
        go_ret
        exact ⟨_, rfl, Kd.R_nil _ _ _ _ _, by repeat (first | exact Below.refl _ _ | apply below_alloc | apply pw_below_drewN | apply below_drew1)⟩
    · have HS := Aside0.mk hs
      have d8 : (Int.tmod a1 8 != 0) = true := bne_iff_ne.mpr h8
      have HE := Aside0.mk (show joinI l0 a1 a2 = [] from by unfold joinI; rw [if_neg (fun h => h8 h.1.2.1)])
      clear hs h8
      rw [HE.out]
      clear HE
      have hmf := HM.out
      go_enter Try.func27, Try.ntmps27
      go_wp2_with (first | (go_at_call 43; (with_reducible refine (boolCall (areSides_calls _ _ _) HS.out).mono ?_); rintro e w' ⟨rfl, ⟨nd, rfl⟩⟩))
      go_ret
      exact ⟨_, rfl, Kd.R_nil _ _ _ _ _, by repeat (first | exact Below.refl _ _ | apply below_alloc | apply pw_below_drewN | apply below_drew1)⟩
  · have HS := Aside0.mk (Bool.eq_false_iff.mpr hs)
    have HE := Aside0.mk (show joinI l0 a1 a2 = [] from by unfold joinI; rw [if_neg (fun h => hs h.1.1)])
    clear hs
    rw [HE.out]
    clear HE
    have hmf := HM.out
    go_enter Try.func27, Try.ntmps27
    go_wp2_with (first | (go_at_call 43; (with_reducible refine (boolCall (areSides_calls _ _ _) HS.out).mono ?_); rintro e w' ⟨rfl, ⟨nd, rfl⟩⟩))
    go_ret
    exact ⟨_, rfl, Kd.R_nil _ _ _ _ _, by repeat (first | exact Below.refl _ _ | apply below_alloc | apply pw_below_drewN | apply below_drew1)⟩

end Go.Proofs.Ytmgjglegooehbaa.CJ
