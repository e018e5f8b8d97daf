/- Functions that a law of this seat reaches: written by a program of this session (wip/xprint.py), and by hand. -/
import Derived.Test.YthajjjpblkhmmaaYCLx0
namespace Go.Proofs.Ythajjjpblkhmmaa.CL
open Go.RowKit Go.Proofs.Ythajjjpblkhmmaa.B Go.Proofs.YthajjjpblkhmmaaW.PrintWords Go.Proofs.YthajjjpblkhmmaaW.PrintLast Go.Proofs.YthajjjpblkhmmaaW.PrintMore
attribute [local go_sem] max2_int min2_int max_two min_two max_three min_three max_four min_four   -- for this text's walks alone
set_option linter.unusedVariables false
set_option linter.unusedSimpArgs false

/-! ### impl_FrameOk_1: function 125 (by hand) -/
/-- Where the first element lies that a test takes; -1 if there is none. -/
def idxP {α : Type} (p : α → Bool) : List α → Nat → Int
  | [], _ => -1
  | x :: xs, i => if p x = true then (i : Int) else idxP p xs (i + 1)
theorem idxP_none {α : Type} (p : α → Bool) : ∀ (l : List α) (i : Nat), l.any p = false → idxP p l i = -1
  | [], _, _ => rfl
  | x :: xs, i, h => by
    rw [List.any_cons, Bool.or_eq_false_iff] at h
    rw [idxP, h.1, if_neg (by simp)]
    exact idxP_none p xs (i + 1) h.2
theorem idxP_nonneg {α : Type} (p : α → Bool) : ∀ (l : List α) (i : Nat), decide (0 ≤ idxP p l i) = l.any p
  | [], _ => rfl
  | x :: xs, i => by
    rw [idxP, List.any_cons]
    cases h : p x with
    | true => rw [if_pos rfl]; simp
    | false => rw [if_neg (by simp), Bool.false_or]; exact idxP_nonneg p xs (i + 1)
theorem idxP_at {α : Type} (p : α → Bool) : ∀ (l : List α) (i k : Nat) (hk : k < l.length), (∀ j (hj : j < l.length), j < k → p l[j] = false) → p l[k] = true → idxP p l i = ((i + k : Nat) : Int)
  | [], _, k, hk, _, _ => by simp at hk
  | x :: xs, i, 0, _, _, h => by
    have h2 : p x = true := h
    rw [idxP, if_pos h2]
    simp
  | x :: xs, i, k + 1, hk, h0, h => by
    have hx : p x = false := h0 0 (by simp) (by omega)
    rw [idxP, hx, if_neg (by simp)]
    have := idxP_at p xs (i + 1) k (by simpa using hk) (fun j hj hjk => h0 (j + 1) (by simpa using hj) (by omega)) h
    rw [this, show i + 1 + k = i + (k + 1) from by omega]
set_option maxHeartbeats 8000000 in
set_option maxRecDepth 100000 in
theorem indexFunc_Comp (cl : Nat) (lb : Array Value) (p : S42 → Bool) (A : Option Addr) (c : Nat) (l : List S42) (W : World) (hr : Kd.C k42 W A l.length l)
    (eg : ∀ args w, (callFunc cl args).run Try.prog w = .ok (.enter cl args) w)
    (hp : ∀ (W' : World) (x : S42), Below W.heap.size W W' → Calls Try.prog cl (#[.agg #[.int .i64 x.f0, .int .i64 x.f1, .int .i64 x.f2, .int .i64 x.f3]] ++ lb) W' fun e w' => e = .returned (.bool (p x)) ∧ Below W.heap.size W w') :
    Calls Try.prog 142 #[.slice A l.length c, .func (.func cl) #[] lb] W fun e w' => e = .returned (.int .i64 (idxP p l 0)) ∧ Below W.heap.size W w' := by
  have hmax := Kd.C_max hr
  have HR := Aside0.mk hr
  have HP := Aside0.mk hp
  clear hr hp
  have HB := Aside0.mk (Below.refl W.heap.size W)
  go_enter Try.func142, Try.ntmps142
  go_wp2
  go_loopg [5, 8] l.length (fun gg _ s8 wr => ∃ kk : Nat, kk ≤ l.length ∧ l.length - kk ≤ gg ∧ s8 = .int .i64 (kk : Int) ∧ Aside0 (Below W.heap.size W wr) ∧ Aside0 (∀ j (hj : j < l.length), j < kk → p l[j] = false))
  case atStart => exact ⟨0, Nat.zero_le _, by omega, rfl, HB, ⟨fun j _ hj => absurd hj (Nat.not_lt_zero _)⟩⟩
  case round =>
    clear HB
    obtain ⟨kk, hkk, hg, rfl, BW, AN⟩ := hrel
    by_cases hlt : kk < l.length
    · have hltz : (kk : Int) < (l.length : Int) := by omega
      have h0z : (0 : Int) ≤ (kk : Int) := by omega
      have d1 : decide ((kk : Int) < (l.length : Int)) = true := decide_eq_true hltz
      have d2 : decide ((0 : Int) ≤ (kk : Int)) = true := decide_eq_true h0z
      obtain ⟨ad, e1, hx0, hx1, hx2, hx3⟩ := at_T42 HR.out (kk : Int) h0z hltz
      cases e1
      rw [Int.toNat_natCast] at hx0 hx1 hx2 hx3
      replace hx0 := (BW.out.cell (World.block_lt_of_cell? W _ hx0)).trans hx0
      replace hx1 := (BW.out.cell (World.block_lt_of_cell? W _ hx1)).trans hx1
      replace hx2 := (BW.out.cell (World.block_lt_of_cell? W _ hx2)).trans hx2
      replace hx3 := (BW.out.cell (World.block_lt_of_cell? W _ hx3)).trans hx3
      have EY : Aside0 (rd_T42 l (kk : Int) = l[kk]) := ⟨by simp [rd_T42, List.getD, hlt]⟩
      have hcall := HP.out wr (rd_T42 l (kk : Int)) BW.out
      cases hq : p (rd_T42 l (kk : Int)) with
      | true =>
        rw [hq] at hcall
        have HQ := Aside0.mk hq
        clear hq
        go_wp2_with (go_at_fn cl; refine hcall.mono ?_; rintro e w' ⟨rfl, hb'⟩)
        go_ret
        refine ⟨?_, hb'⟩
        have hh := HQ.out
        rw [EY.out] at hh
        have := idxP_at p l 0 kk hlt AN.out hh
        rw [Nat.zero_add] at this
        rw [this]
        rfl
      | false =>
        rw [hq] at hcall
        have HQ := Aside0.mk hq
        clear hq
        go_wp2_with (go_at_fn cl; refine hcall.mono ?_; rintro e w' ⟨rfl, hb'⟩)
        go_roundg (l.length - (kk + 1))
        case measure => omega
        case rel =>
          refine ⟨kk + 1, by omega, by omega, by go_num, ⟨hb'⟩, ⟨fun j hj hjk => ?_⟩⟩
          by_cases e : j = kk
          · subst e
            have hh := HQ.out
            rwa [EY.out] at hh
          · exact AN.out j hj (by omega)
    · have d1 : decide ((kk : Int) < (l.length : Int)) = false := decide_eq_false (by omega)
      go_wp2
      go_ret
      refine ⟨?_, BW.out⟩
      rw [idxP_none p l 0 (by
        rw [List.any_eq_false]
        intro x hx
        obtain ⟨j, hj, rfl⟩ := List.getElem_of_mem hx
        rw [AN.out j hj (by omega)]
        simp)]
      rfl
set_option maxHeartbeats 8000000 in
set_option maxRecDepth 100000 in
theorem containsFunc_Comp (cl : Nat) (lb : Array Value) (p : S42 → Bool) (A : Option Addr) (c : Nat) (l : List S42) (W : World) (hr : Kd.C k42 W A l.length l)
    (eg : ∀ args w, (callFunc cl args).run Try.prog w = .ok (.enter cl args) w)
    (hp : ∀ (W' : World) (x : S42), Below W.heap.size W W' → Calls Try.prog cl (#[.agg #[.int .i64 x.f0, .int .i64 x.f1, .int .i64 x.f2, .int .i64 x.f3]] ++ lb) W' fun e w' => e = .returned (.bool (p x)) ∧ Below W.heap.size W w') :
    Calls Try.prog 124 #[.slice A l.length c, .func (.func cl) #[] lb] W fun e w' => e = .returned (.bool (l.any p)) ∧ Below W.heap.size W w' := by
  have HR := Aside0.mk hr
  have HP := Aside0.mk hp
  clear hr hp
  rw [← idxP_nonneg p l 0]
  go_enter Try.func124, Try.ntmps124
  go_wp2_with (go_at_call 142; refine (indexFunc_Comp cl lb p A c l _ HR.out eg HP.out).mono ?_; rintro e w' ⟨rfl, hb'⟩)
  go_ret
  exact ⟨rfl, hb'⟩
set_option maxHeartbeats 8000000 in
set_option maxRecDepth 100000 in
theorem frameOk1_one (g : Nat) (y : S42) (c0 c1 c2 c3 : Int) (w W : World) (hbx : w.heap[g]? = some (.cells #[.int .i64 c0, .int .i64 c1, .int .i64 c2, .int .i64 c3] 42 (0, 0))) (hb : Below w.heap.size w W) :
    Calls Try.prog 125 (#[.agg #[.int .i64 y.f0, .int .i64 y.f1, .int .i64 y.f2, .int .i64 y.f3]] ++ #[.pointer (some ⟨g, 0, none⟩)]) W fun e w' => e = .returned (.bool (y.f0 == c0)) ∧ Below w.heap.size w w' := by
  have hc : W.cell? ⟨g, 0, none⟩ = some (.int .i64 c0) := (blk_cell (blk_below hbx hb) 0).trans rfl
  have hlt := World.block_lt_of_cell? W _ hc
  have HB := Aside0.mk hb
  clear hb hbx
  have hu := Try.underlying42
  go_enter Try.func125, Try.ntmps125
  go_wp2
  go_ret
  exact ⟨rfl, by repeat (first | exact HB.out | apply below_alloc | apply pw_below_drewN | apply below_drew1)⟩
def impl_FrameOk_1.f (l : List S42) (c0 _c1 _c2 _c3 : Int) : Option Bool := some (l.any fun y => y.f0 == c0)
theorem impl_FrameOk_1.calls (A : Option Addr) (c : Nat) (l : List S42) (g : Nat) (c0 c1 c2 c3 : Int) (r : Bool) (w : World) (hr : Kd.C k42 w A l.length l) (_hc : l.length ≤ c)
  (hbx : w.heap[g]? = some (.cells #[.int .i64 c0, .int .i64 c1, .int .i64 c2, .int .i64 c3] 42 (0, 0))) (h : impl_FrameOk_1.f l c0 c1 c2 c3 = some r) :
  Calls Try.prog 124 #[.slice A l.length c, .func (.func 125) #[] #[.pointer (some ⟨g, 0, none⟩)]] w fun e w' => e = .returned (.bool r) ∧ Below w.heap.size w w' := by
 obtain rfl := Option.some.inj h
 exact containsFunc_Comp 125 _ (fun y => y.f0 == c0) A c l w hr (enters_of Try.func125 (by kernel_rfl) rfl) (fun W' x hb => frameOk1_one g x c0 c1 c2 c3 w W' hbx hb)

end Go.Proofs.Ythajjjpblkhmmaa.CL
