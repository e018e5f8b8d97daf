/- Functions that a law of this seat reaches: written by a program of this session (wip/xprint.py), and by hand. -/
import Derived.Test.YthajjjpblkhmmaaZCWx0
import Derived.Test.YthajjjpblkhmmaaZCWx1
import Derived.Test.YthajjjpblkhmmaaZCWx2
namespace Go.Proofs.Ythajjjpblkhmmaa.CW
open Go.RowKit Go.Proofs.Ythajjjpblkhmmaa.B Go.Proofs.YthajjjpblkhmmaaW.PrintWords Go.Proofs.YthajjjpblkhmmaaW.PrintLast Go.Proofs.YthajjjpblkhmmaaW.PrintMore
attribute [local go_sem] max2_int min2_int max_two min_two max_three min_three max_four min_four   -- for this text's walks alone
set_option linter.unusedVariables false
set_option linter.unusedSimpArgs false

def headF (p w h r n : Int) : Bool := (p == 8 || p == 12) && (inR w 1 256 && (inR h 1 256 && (decide (¬ wrap64 (w * h) > 16384) && (inR r 0 255 && inR n 1 4))))
def compB (x : S42) : Bool := inR x.f0 0 255 && (inR x.f1 1 4 && (inR x.f2 1 4 && inR x.f3 0 3))
/-- The components from the i-th on (d of them), s: the sum so far. -/
def framesB (l : List S42) : Nat → Nat → Int → Bool
  | 0, _, s => decide (s ≤ 10)
  | d + 1, i, s => compB (rd_T42 l (i : Int)) && (!((l.take i).any fun y => y.f0 == (rd_T42 l (i : Int)).f0) && framesB l d (i + 1) (wrap64 (s + wrap64 ((rd_T42 l (i : Int)).f1 * (rd_T42 l (i : Int)).f2))))
def frameB (p w h r : Int) (l : List S42) : Bool := headF p w h r (l.length : Int) && framesB l l.length 0 0
theorem rdC_nat {l : List S42} {i : Nat} (h : i < l.length) : rd_T42 l (i : Int) = l[i] := by simp [rd_T42, List.getD, h]
theorem frame_len {p w h r : Int} {l : List S42} (hb : frameB p w h r l = true) : 1 ≤ l.length ∧ l.length ≤ 4 := by
  simp only [frameB, headF, Bool.and_eq_true, inR_iff] at hb
  omega
theorem head_ev (J : Nat → Bool → Option Bool) (p w h r n : Int) (R : Bool) (hT : Ev (fun k => J k true) false) (hF : headF p w h r n = true → Ev (fun k => J k false) R) :
    Ev (fun k => if p = 8 then ((some (inR w 1 256)).bind fun t => (if t = true then ((some (inR h 1 256)).bind fun t => (if t = true then (if (wrap64 (w * h)) > 16384 then (J k true) else ((some (inR r 0 255)).bind fun t => (if t = true then ((some (inR n 1 4)).bind fun t => (J k (!t))) else (J k true)))) else (J k true))) else (J k true))) else (if p = 12 then ((some (inR w 1 256)).bind fun t => (if t = true then ((some (inR h 1 256)).bind fun t => (if t = true then (if (wrap64 (w * h)) > 16384 then (J k true) else ((some (inR r 0 255)).bind fun t => (if t = true then ((some (inR n 1 4)).bind fun t => (J k (!t))) else (J k true)))) else (J k true))) else (J k true))) else (J k true))) (headF p w h r n && R) := by
  have no : headF p w h r n = false → Ev (fun k => J k true) (headF p w h r n && R) := fun hf => by rw [hf, Bool.false_and]; exact hT
  have tail : (p == 8 || p == 12) = true → Ev (fun k => (some (inR w 1 256)).bind fun t => (if t = true then ((some (inR h 1 256)).bind fun t => (if t = true then (if (wrap64 (w * h)) > 16384 then (J k true) else ((some (inR r 0 255)).bind fun t => (if t = true then ((some (inR n 1 4)).bind fun t => (J k (!t))) else (J k true)))) else (J k true))) else (J k true))) (headF p w h r n && R) := fun hp => by
    refine evBind (evConst rfl) (evIf (fun h1 => ?_) (fun h1 => no (by unfold headF; rw [Bool.eq_false_iff.2 h1]; simp)))
    refine evBind (evConst rfl) (evIf (fun h2 => ?_) (fun h2 => no (by unfold headF; rw [Bool.eq_false_iff.2 h2]; simp)))
    refine evIf (fun h3 => no (by unfold headF; rw [decide_eq_false (Classical.not_not.2 h3)]; simp)) (fun h3 => ?_)
    refine evBind (evConst rfl) (evIf (fun h4 => ?_) (fun h4 => no (by unfold headF; rw [Bool.eq_false_iff.2 h4]; simp)))
    refine evBind (evConst rfl) ?_
    cases h5 : inR n 1 4 with
    | false => exact no (by unfold headF; rw [h5]; simp)
    | true =>
      have hh : headF p w h r n = true := by unfold headF; rw [hp, h1, h2, h4, h5, decide_eq_true h3]; rfl
      rw [hh, Bool.true_and]
      exact hF hh
  refine evIf (fun hp => tail (by simp [hp])) (fun hp => evIf (fun hp2 => tail (by simp [hp2])) (fun hp2 => no ?_))
  unfold headF
  rw [show (p == 8 || p == 12) = false from by simp [hp, hp2], Bool.false_and]
theorem comp_ev (J : Nat → Bool → Option Bool) (x : S42) (R : Bool) (hT : Ev (fun k => J k true) false) (hF : Ev (fun k => J k false) R) :
    Ev (fun k => (some (inR x.f0 0 255)).bind fun t => (if t = true then ((some (inR x.f1 1 4)).bind fun t => (if t = true then ((some (inR x.f2 1 4)).bind fun t => (if t = true then ((some (inR x.f3 0 3)).bind fun t => (J k (!t))) else (J k true))) else (J k true))) else (J k true))) (compB x && R) := by
  have no : compB x = false → Ev (fun k => J k true) (compB x && R) := fun hf => by rw [hf, Bool.false_and]; exact hT
  refine evBind (evConst rfl) (evIf (fun h1 => ?_) (fun h1 => no (by unfold compB; rw [Bool.eq_false_iff.2 h1]; simp)))
  refine evBind (evConst rfl) (evIf (fun h2 => ?_) (fun h2 => no (by unfold compB; rw [Bool.eq_false_iff.2 h2]; simp)))
  refine evBind (evConst rfl) (evIf (fun h3 => ?_) (fun h3 => no (by unfold compB; rw [Bool.eq_false_iff.2 h3]; simp)))
  refine evBind (evConst rfl) ?_
  cases h4 : inR x.f3 0 3 with
  | false => exact no (by unfold compB; rw [h4]; simp)
  | true =>
    have hh : compB x = true := by unfold compB; rw [h1, h2, h3, h4]; rfl
    rw [hh, Bool.true_and]
    exact hF
theorem take_any_succ (l : List S42) (q : S42 → Bool) {j : Nat} (h : j < l.length) : (l.take (j + 1)).any q = ((l.take j).any q || q l[j]) := by
  rw [List.take_succ_eq_append_getElem h, List.any_append]
  simp
theorem sFrame_l1 (p w h r : Int) (l : List S42) (hl : l.length ≤ 1048576) (i : Nat) (hi : i < l.length) (c : S42) (s : Int) (R : Bool)
    (hR : Ev (fun k => spec_FrameOk.l0 k (wrap64 (s + (wrap64 (c.f1 * c.f2)))) (wrap64 ((i : Int) + 1)) p w h r l) R) :
    ∀ (d j : Nat), j + d = i → ((l.take j).any fun y => y.f0 == c.f0) = false → Ev (fun k => spec_FrameOk.l1 k s i j p w h r l c.f0 c.f1 c.f2 c.f3) (!((l.take i).any fun y => y.f0 == c.f0) && R) := by
  intro d
  induction d with
  | zero =>
    intro j hj ha
    obtain rfl : j = i := by omega
    refine Ev.step (fun k => by rw [spec_FrameOk.l1]) (evNeg (by omega) ?_)
    rw [ha]
    simpa using hR
  | succ d ih =>
    intro j hj ha
    have hjl : j < l.length := by omega
    refine Ev.step (fun k => by rw [spec_FrameOk.l1]) (evPos (by omega) (evPos (by omega) (evPos (by omega) ?_)))
    rw [rdC_nat hjl]
    refine evIf (fun hc => ?_) (fun hc => ?_)
    · have : ((l.take i).any fun y => y.f0 == c.f0) = true := by
        rw [List.any_eq_true]
        exact ⟨l[j], List.mem_take_iff_getElem.2 ⟨j, by omega, rfl⟩, by simp [hc]⟩
      rw [this]
      exact Ev.now _
    · rw [w64 (by omega) (by omega)]
      refine ih (j + 1) (by omega) ?_
      rw [take_any_succ l _ hjl, ha]
      simp [hc]
theorem sFrame_l0 (p w h r : Int) (l : List S42) (hl : l.length ≤ 1048576) : ∀ (d i : Nat) (s : Int), i + d = l.length → Ev (fun k => spec_FrameOk.l0 k s i p w h r l) (framesB l d i s) := by
  intro d
  induction d with
  | zero =>
    intro i s hi
    refine Ev.step (fun k => by rw [spec_FrameOk.l0]) (evNeg (by omega) ?_)
    exact Ev.now _
  | succ d ih =>
    intro i s hi
    have hil : i < l.length := by omega
    refine Ev.step (fun k => by rw [spec_FrameOk.l0]) (evPos (by omega) (evPos (by omega) ?_))
    simp only [between_f]
    rw [framesB]
    refine comp_ev (fun k b => spec_FrameOk.j2 k s i b p w h r l (rd_T42 l (i : Int)).f0 (rd_T42 l (i : Int)).f1 (rd_T42 l (i : Int)).f2 (rd_T42 l (i : Int)).f3) (rd_T42 l (i : Int)) _ ?_ ?_
    · refine Ev.step (fun k => by rw [spec_FrameOk.j2]) (evPos rfl ?_)
      exact Ev.now _
    · refine Ev.step (fun k => by rw [spec_FrameOk.j2]) (evNeg (by simp) ?_)
      refine sFrame_l1 p w h r l hl i hil (rd_T42 l (i : Int)) s _ ?_ i 0 (by omega) (by simp)
      rw [w64 (x := (i : Int) + 1) (by omega) (by omega)]
      exact ih (i + 1) _ (by omega)
theorem sFrameOk_f (p w h r : Int) (l : List S42) (hl : l.length ≤ 1048576) : Ev (fun k => spec_FrameOk.f k p w h r l) (frameB p w h r l) := by
  unfold spec_FrameOk.f frameB
  simp only [between_f]
  refine head_ev (fun k b => spec_FrameOk.j0 k b p w h r l) p w h r (l.length : Int) _ ?_ (fun _ => ?_)
  · refine Ev.step (fun k => by rw [spec_FrameOk.j0]) (evPos rfl ?_)
    exact Ev.now _
  · refine Ev.step (fun k => by rw [spec_FrameOk.j0]) (evNeg (by simp) ?_)
    exact sFrame_l0 p w h r l hl l.length 0 0 (by omega)

/-! ### impl_within: function 101 -/
def impl_within.f (a0 : Int) (a1 : Int) (a2 : Int) : Option (Bool) := if a0 ≥ a1 then (some (decide (a0 ≤ a2))) else (some false)
set_option maxHeartbeats 8000000 in
set_option maxRecDepth 100000 in
theorem impl_within.calls (a0 : Int) (a1 : Int) (a2 : Int) (r : Bool) (w : World) (h : impl_within.f a0 a1 a2 = some r) :
    Calls Try.prog 101 #[.int .i64 a0, .int .i64 a1, .int .i64 a2] w fun e w' => e = .returned (.bool r) ∧ Drawn0 w w' := by
  have H : (if a0 ≥ a1 then (some (decide (a0 ≤ a2))) else (some false)) = some r := h
  clear h
  by_cases c4 : a0 ≥ a1
  · rw [if_pos c4] at H
    have c4b0 : decide (a1 ≤ a0) = true := decide_eq_true c4
    clear c4
    obtain rfl := Option.some.inj H
    go_enter Try.func101, Try.ntmps101
    go_wp2
    go_ret
    exact ⟨by first | rfl | (simp; done) | (simp [*]; done), by repeat (first | exact Drawn0.refl _ | apply Drawn0.step)⟩
  · rw [if_neg c4] at H
    have c4b0 : decide (a1 ≤ a0) = false := decide_eq_false c4
    clear c4
    obtain rfl := Option.some.inj H
    go_enter Try.func101, Try.ntmps101
    go_wp2
    go_ret
    exact ⟨by first | rfl | (simp; done) | (simp [*]; done), by repeat (first | exact Drawn0.refl _ | apply Drawn0.step)⟩

theorem within_f (a b c : Int) : impl_within.f a b c = some (inR a b c) := inR_ite a b c

-- NOT PRINTED: function 142 (impl_Comp_142)

-- NOT PRINTED: function 124 (impl_Comp_124)

/-! ### impl_FrameOk_1: function 125 (by hand) -/
/-- Where the first element lies that a test takes; -1 if there is none. -/
def idxP {α : Type} (p : α → Bool) : List α → Nat → Int
  | [], _ => -1
  | x :: xs, i => if p x = true then (i : Int) else idxP p xs (i + 1)
theorem idxP_none {α : Type} (p : α → Bool) : ∀ (l : List α) (i : Nat), l.any p = false → idxP p l i = -1
  | [], _, _ => rfl
  | x :: xs, i, h => by
    rw [List.any_cons, Bool.or_eq_false_iff] at h
    rw [idxP, h.1, if_neg (by simp)]
    exact idxP_none p xs (i + 1) h.2
theorem idxP_nonneg {α : Type} (p : α → Bool) : ∀ (l : List α) (i : Nat), decide (0 ≤ idxP p l i) = l.any p
  | [], _ => rfl
  | x :: xs, i => by
    rw [idxP, List.any_cons]
    cases h : p x with
    | true => rw [if_pos rfl]; simp
    | false => rw [if_neg (by simp), Bool.false_or]; exact idxP_nonneg p xs (i + 1)
theorem idxP_at {α : Type} (p : α → Bool) : ∀ (l : List α) (i k : Nat) (hk : k < l.length), (∀ j (hj : j < l.length), j < k → p l[j] = false) → p l[k] = true → idxP p l i = ((i + k : Nat) : Int)
  | [], _, k, hk, _, _ => by simp at hk
  | x :: xs, i, 0, _, _, h => by
    have h2 : p x = true := h
    rw [idxP, if_pos h2]
    simp
  | x :: xs, i, k + 1, hk, h0, h => by
    have hx : p x = false := h0 0 (by simp) (by omega)
    rw [idxP, hx, if_neg (by simp)]
    have := idxP_at p xs (i + 1) k (by simpa using hk) (fun j hj hjk => h0 (j + 1) (by simpa using hj) (by omega)) h
    rw [this, show i + 1 + k = i + (k + 1) from by omega]
set_option maxHeartbeats 8000000 in
set_option maxRecDepth 100000 in
theorem indexFunc_Comp (cl : Nat) (lb : Array Value) (p : S42 → Bool) (A : Option Addr) (c : Nat) (l : List S42) (W : World) (hr : Kd.C k42 W A l.length l)
    (eg : ∀ args w, (callFunc cl args).run Try.prog w = .ok (.enter cl args) w)
    (hp : ∀ (W' : World) (x : S42), Below W.heap.size W W' → Calls Try.prog cl (#[.agg #[.int .i64 x.f0, .int .i64 x.f1, .int .i64 x.f2, .int .i64 x.f3]] ++ lb) W' fun e w' => e = .returned (.bool (p x)) ∧ Below W.heap.size W w') :
    Calls Try.prog 142 #[.slice A l.length c, .func (.func cl) #[] lb] W fun e w' => e = .returned (.int .i64 (idxP p l 0)) ∧ Below W.heap.size W w' := by
  have hmax := Kd.C_max hr
  have HR := Aside0.mk hr
  have HP := Aside0.mk hp
  clear hr hp
  have HB := Aside0.mk (Below.refl W.heap.size W)
  go_enter Try.func142, Try.ntmps142
  go_wp2
  go_loopg [5, 8] l.length (fun gg _ s8 wr => ∃ kk : Nat, kk ≤ l.length ∧ l.length - kk ≤ gg ∧ s8 = .int .i64 (kk : Int) ∧ Aside0 (Below W.heap.size W wr) ∧ Aside0 (∀ j (hj : j < l.length), j < kk → p l[j] = false))
  case atStart => exact ⟨0, Nat.zero_le _, by omega, rfl, HB, ⟨fun j _ hj => absurd hj (Nat.not_lt_zero _)⟩⟩
  case round =>
    clear HB
    obtain ⟨kk, hkk, hg, rfl, BW, AN⟩ := hrel
    by_cases hlt : kk < l.length
    · have hltz : (kk : Int) < (l.length : Int) := by omega
      have h0z : (0 : Int) ≤ (kk : Int) := by omega
      have d1 : decide ((kk : Int) < (l.length : Int)) = true := decide_eq_true hltz
      have d2 : decide ((0 : Int) ≤ (kk : Int)) = true := decide_eq_true h0z
      obtain ⟨ad, e1, hx0, hx1, hx2, hx3⟩ := at_T42 HR.out (kk : Int) h0z hltz
      cases e1
      rw [Int.toNat_natCast] at hx0 hx1 hx2 hx3
      replace hx0 := (BW.out.cell (World.block_lt_of_cell? W _ hx0)).trans hx0
      replace hx1 := (BW.out.cell (World.block_lt_of_cell? W _ hx1)).trans hx1
      replace hx2 := (BW.out.cell (World.block_lt_of_cell? W _ hx2)).trans hx2
      replace hx3 := (BW.out.cell (World.block_lt_of_cell? W _ hx3)).trans hx3
      have EY : Aside0 (rd_T42 l (kk : Int) = l[kk]) := ⟨by simp [rd_T42, List.getD, hlt]⟩
      have hcall := HP.out wr (rd_T42 l (kk : Int)) BW.out
      cases hq : p (rd_T42 l (kk : Int)) with
      | true =>
        rw [hq] at hcall
        have HQ := Aside0.mk hq
        clear hq
        go_wp2_with (go_at_fn cl; refine hcall.mono ?_; rintro e w' ⟨rfl, hb'⟩)
        go_ret
        refine ⟨?_, hb'⟩
        have hh := HQ.out
        rw [EY.out] at hh
        have := idxP_at p l 0 kk hlt AN.out hh
        rw [Nat.zero_add] at this
        rw [this]
        rfl
      | false =>
        rw [hq] at hcall
        have HQ := Aside0.mk hq
        clear hq
        go_wp2_with (go_at_fn cl; refine hcall.mono ?_; rintro e w' ⟨rfl, hb'⟩)
        go_roundg (l.length - (kk + 1))
        case measure => omega
        case rel =>
          refine ⟨kk + 1, by omega, by omega, by go_num, ⟨hb'⟩, ⟨fun j hj hjk => ?_⟩⟩
          by_cases e : j = kk
          · subst e
            have hh := HQ.out
            rwa [EY.out] at hh
          · exact AN.out j hj (by omega)
    · have d1 : decide ((kk : Int) < (l.length : Int)) = false := decide_eq_false (by omega)
      go_wp2
      go_ret
      refine ⟨?_, BW.out⟩
      rw [idxP_none p l 0 (by
        rw [List.any_eq_false]
        intro x hx
        obtain ⟨j, hj, rfl⟩ := List.getElem_of_mem hx
        rw [AN.out j hj (by omega)]
        simp)]
      rfl
set_option maxHeartbeats 8000000 in
set_option maxRecDepth 100000 in
theorem containsFunc_Comp (cl : Nat) (lb : Array Value) (p : S42 → Bool) (A : Option Addr) (c : Nat) (l : List S42) (W : World) (hr : Kd.C k42 W A l.length l)
    (eg : ∀ args w, (callFunc cl args).run Try.prog w = .ok (.enter cl args) w)
    (hp : ∀ (W' : World) (x : S42), Below W.heap.size W W' → Calls Try.prog cl (#[.agg #[.int .i64 x.f0, .int .i64 x.f1, .int .i64 x.f2, .int .i64 x.f3]] ++ lb) W' fun e w' => e = .returned (.bool (p x)) ∧ Below W.heap.size W w') :
    Calls Try.prog 124 #[.slice A l.length c, .func (.func cl) #[] lb] W fun e w' => e = .returned (.bool (l.any p)) ∧ Below W.heap.size W w' := by
  have HR := Aside0.mk hr
  have HP := Aside0.mk hp
  clear hr hp
  rw [← idxP_nonneg p l 0]
  go_enter Try.func124, Try.ntmps124
  go_wp2_with (go_at_call 142; refine (indexFunc_Comp cl lb p A c l _ HR.out eg HP.out).mono ?_; rintro e w' ⟨rfl, hb'⟩)
  go_ret
  exact ⟨rfl, hb'⟩
set_option maxHeartbeats 8000000 in
set_option maxRecDepth 100000 in
theorem frameOk1_one (g : Nat) (y : S42) (c0 c1 c2 c3 : Int) (w W : World) (hbx : w.heap[g]? = some (.cells #[.int .i64 c0, .int .i64 c1, .int .i64 c2, .int .i64 c3] 42 (0, 0))) (hb : Below w.heap.size w W) :
    Calls Try.prog 125 (#[.agg #[.int .i64 y.f0, .int .i64 y.f1, .int .i64 y.f2, .int .i64 y.f3]] ++ #[.pointer (some ⟨g, 0, none⟩)]) W fun e w' => e = .returned (.bool (y.f0 == c0)) ∧ Below w.heap.size w w' := by
  have hc : W.cell? ⟨g, 0, none⟩ = some (.int .i64 c0) := (blk_cell (blk_below hbx hb) 0).trans rfl
  have hlt := World.block_lt_of_cell? W _ hc
  have HB := Aside0.mk hb
  clear hb hbx
  have hu := Try.underlying42
  go_enter Try.func125, Try.ntmps125
  go_wp2
  go_ret
  exact ⟨rfl, by repeat (first | exact HB.out | apply below_alloc | apply pw_below_drewN | apply below_drew1)⟩
def impl_FrameOk_1.f (l : List S42) (c0 _c1 _c2 _c3 : Int) : Option Bool := some (l.any fun y => y.f0 == c0)
theorem impl_FrameOk_1.calls (A : Option Addr) (c : Nat) (l : List S42) (g : Nat) (c0 c1 c2 c3 : Int) (r : Bool) (w : World) (hr : Kd.C k42 w A l.length l) (_hc : l.length ≤ c)
    (hbx : w.heap[g]? = some (.cells #[.int .i64 c0, .int .i64 c1, .int .i64 c2, .int .i64 c3] 42 (0, 0))) (h : impl_FrameOk_1.f l c0 c1 c2 c3 = some r) :
    Calls Try.prog 124 #[.slice A l.length c, .func (.func 125) #[] #[.pointer (some ⟨g, 0, none⟩)]] w fun e w' => e = .returned (.bool r) ∧ Below w.heap.size w w' := by
  obtain rfl := Option.some.inj h
  exact containsFunc_Comp 125 _ (fun y => y.f0 == c0) A c l w hr (enters_of Try.func125 (by kernel_rfl) rfl) (fun W' x hb => frameOk1_one g x c0 c1 c2 c3 w W' hbx hb)

end Go.Proofs.Ythajjjpblkhmmaa.CW
