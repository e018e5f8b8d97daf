/- Functions that a law of this seat reaches: written by a program of this session (wip/xprint.py), and by hand. -/
import Derived.Test.YtmgjglegooehbaaCBx0
import Derived.Test.YtmgjglegooehbaaCBx1
namespace Go.Proofs.Ytmgjglegooehbaa.CB
open Go.RowKit Go.Proofs.Ytmgjglegooehbaa.B Go.Proofs.YtmgjglegooehbaaW.PrintWords Go.Proofs.YtmgjglegooehbaaW.PrintLast Go.Proofs.YtmgjglegooehbaaW.PrintMore
attribute [local go_sem] max2_int min2_int max_two min_two max_three min_three max_four min_four   -- for this text's walks alone
set_option linter.unusedVariables false
set_option linter.unusedSimpArgs false

/-! ### impl_cutBlocks: function 39 (by hand) -/
def cutG (l : List Int) (w h : Int) : Prop := planeB l w h = true ∧ Int.tmod w 8 = 0 ∧ Int.tmod h 8 = 0
instance (l : List Int) (w h : Int) : Decidable (cutG l w h) := by unfold cutG; infer_instance
def impl_cutBlocks.f (l0 : List Int) (a1 a2 : Int) : Option (List (List Int)) := if cutG l0 a1 a2 then some (cutL l0 a1 (a1.toNat / 8) (a2.toNat / 8)) else none
theorem cut_sides {l : List Int} {w h : Int} (hg : cutG l w h) : ∃ a b : Nat, w = ((8 * a : Nat) : Int) ∧ h = ((8 * b : Nat) : Int) ∧ a ≤ 128 ∧ b ≤ 128 ∧ l.length = 8 * b * (8 * a) := by
  obtain ⟨hs, h1, h2⟩ := hg
  obtain ⟨m1, m2, m3, m4, ml⟩ := plane_bounds hs
  rw [Int.tmod_eq_emod_of_nonneg (by omega)] at h1 h2
  obtain ⟨a, ha⟩ : ∃ a : Nat, w = ((8 * a : Nat) : Int) := ⟨w.toNat / 8, by omega⟩
  obtain ⟨b, hb⟩ : ∃ b : Nat, h = ((8 * b : Nat) : Int) := ⟨h.toNat / 8, by omega⟩
  refine ⟨a, b, ha, hb, by omega, by omega, ?_⟩
  rw [ha, hb, ← Int.natCast_mul] at ml
  have := Int.ofNat.inj ml
  rw [this, Nat.mul_comm]
set_option maxHeartbeats 8000000 in
set_option maxRecDepth 100000 in
theorem impl_cutBlocks.calls (A0 : Option Addr) (c0 : Nat) (l0 : List Int) (a1 : Int) (a2 : Int) (r : List (List Int)) (w : World) (hr0 : Kd.C (Kd.int .i64) w A0 l0.length l0) (hc0 : l0.length ≤ c0) (h : impl_cutBlocks.f l0 a1 a2 = some r) :
    Calls Try.prog 39 #[.slice A0 l0.length c0, .int .i64 a1, .int .i64 a2] w fun e w' => ∃ v0_ : Value, e = .returned (v0_) ∧ Kd.S (Kd.slice 3 (Kd.int .i64)) 41 w' w.heap.size (fun _ => True) v0_ r ∧ Below w.heap.size w w' := by
  unfold impl_cutBlocks.f at h
  by_cases hg : cutG l0 a1 a2
  · rw [if_pos hg] at h
    obtain rfl := Option.some.inj h
    clear h
    obtain ⟨a, b, rfl, rfl, ha, hb, hl⟩ := cut_sides hg
    clear hg
    rw [show ((8 * a : Nat) : Int).toNat / 8 = a from by omega, show ((8 * b : Nat) : Int).toNat / 8 = b from by omega]
    have HR := Aside0.mk hr0
    have HC := Aside0.mk hc0
    have HL := Aside0.mk hl
    clear hr0 hc0 hl
    have q1 : wrap64 (Int.tdiv ((8 * b : Nat) : Int) 8) = (b : Int) := by rw [show Int.tdiv ((8 * b : Nat) : Int) 8 = (b : Int) from by rw [Int.tdiv_eq_ediv_of_nonneg (by omega)]; omega]; exact w64n (by omega)
    have q2 : wrap64 (Int.tdiv ((8 * a : Nat) : Int) 8) = (a : Int) := by rw [show Int.tdiv ((8 * a : Nat) : Int) 8 = (a : Int) from by rw [Int.tdiv_eq_ediv_of_nonneg (by omega)]; omega]; exact w64n (by omega)
    have q3 : IntKind.i64.wrap (Int.tdiv ((8 * b : Nat) : Int) 8) = (b : Int) := (i64_w _).trans q1
    have q4 : IntKind.i64.wrap (Int.tdiv ((8 * a : Nat) : Int) 8) = (a : Int) := (i64_w _).trans q2
    have HB := Aside0.mk (Below.refl w.heap.size w)
    have hmf : ∀ (fn : Fn) (first cap : Array Value) (w : World), (Instr.makeFunc fn first cap).run Try.prog w = .ok (.func fn first cap) w := fun _ _ _ _ => rfl
    go_enter Try.func39, Try.ntmps39
    go_wp2_with (first | ((with_reducible refine gate_dst (N := 10) rfl ?_); refine Kd.S_lit (Kd.slice 3 (Kd.int .i64)) _ 41 ?hg (N := 10) ?hd (xs := ([] : List (List Int))) (inner := []) (ok := fun _ => True) (okp := fun _ => True) ?hr ?hp (fun _ hk => hk) trivial (Below.refl _ _) (Nat.le_refl _) (by simp) ?_; (case hd => rfl); (case hg => rfl); (case hr => first | (go_simp; done) | (go_simp; rfl)); (case hp => exact (Reps.none _ _)); intro v10 w7 ho8 hb hg_ hnew_; clear hg_ hnew_; have HO := Aside0.mk ho8; have HB2 := Aside0.mk hb; clear HB ho8 hb; have HB := HB2; clear HB2))
    obtain ⟨W, hW⟩ : ∃ W : World, W = ((w.alloc (.cells #[.slice A0 l0.length c0] 41)).alloc (.cells #[.int .i64 ((8 * a : Nat) : Int)] 3)) := ⟨_, rfl⟩
    have hW0 : W.cell? ⟨w.heap.size, 0, none⟩ = some (.slice A0 l0.length c0) := by rw [hW]; go_simp
    have hW1 : W.cell? ⟨w.heap.size + 1, 0, none⟩ = some (.int .i64 ((8 * a : Nat) : Int)) := by rw [hW]; go_simp
    have hWb : Below w.heap.size w W := by rw [hW]; repeat (first | exact Below.refl _ _ | apply below_alloc)
    have HW0 := Aside0.mk hW0
    have HW1 := Aside0.mk hW1
    have HWB := Aside0.mk hWb
    have HWS := Aside0.mk (below_size hWb)
    replace HO : Aside0 (Kd.S (Kd.slice 3 (Kd.int .i64)) 41 w7 W.heap.size (fun _ => True) v10 (cutL l0 ((8 * a : Nat) : Int) a 0)) := ⟨by rw [hW]; exact HO.out⟩
    replace HB : Aside0 (Below W.heap.size W w7) := ⟨by rw [hW]; exact HB.out⟩
    clear hW hW0 hW1 hWb
    have EZ := Aside0.mk (show (0 : Int) = ((0 : Nat) : Int) from rfl)
    go_loopg [7, 13] b (fun kq v7 v13 w' => ∃ (Y : Nat), v13 = .int .i64 (Y : Int) ∧ Aside0 (Y + kq = b) ∧ Aside0 (Kd.S (Kd.slice 3 (Kd.int .i64)) 41 w' W.heap.size (fun _ => True) v7 (cutL l0 ((8 * a : Nat) : Int) a Y)) ∧ Aside0 (Below W.heap.size W w'))
    case atStart => exact ⟨0, rfl, ⟨by omega⟩, HO, HB⟩
    case round =>
      clear HO HB EZ
      obtain ⟨Y, rfl, HK, HO, HB⟩ := hrel
      by_cases c1 : Y < b
      · have c1b : decide ((Y : Int) < (b : Int)) = true := decide_eq_true (by omega)
        have hl1 : (wr.alloc (.cells #[.int .i64 (Y : Int)] 3)).cell? ⟨w.heap.size + 1, 0, none⟩ = some (.int .i64 ((8 * a : Nat) : Int)) := cell_on (below_alloc (Below.refl _ _) _) (cell_on HB.out HW1.out)
        have BY := Aside0.mk (blk_new wr (.cells #[.int .i64 (Y : Int)] 3))
        go_wp2
        go_loopg [7, 18] a (fun kq v7 v18 w2 => ∃ (X : Nat), v18 = .int .i64 (X : Int) ∧ Aside0 (X + kq = a) ∧ Aside0 (Kd.S (Kd.slice 3 (Kd.int .i64)) 41 w2 W.heap.size (fun _ => True) v7 (cutL l0 ((8 * a : Nat) : Int) a Y ++ cutR l0 ((8 * a : Nat) : Int) Y X)) ∧ Aside0 (Below W.heap.size W w2) ∧ Aside0 (w2.heap[wr.heap.size]? = some (.cells #[.int .i64 (Y : Int)] 3 (0, 0))))
        case atStart => exact ⟨0, rfl, ⟨by omega⟩, ⟨by (with_reducible repeat (first | apply Kd.S_alloc | apply Kd.S_drewN | apply Kd.S_drew)); rw [cutR, List.append_nil]; exact HO.out⟩, ⟨(by repeat (first | (with_reducible first | exact HB.out | apply below_alloc | apply pw_below_drewN | apply below_drew1) | exact HB.out))⟩, ⟨BY.out⟩⟩
        case round =>
          clear HO HB BY hl1
          obtain ⟨X, rfl, HX, HO, HB, BY⟩ := hrel
          by_cases c2 : X < a
          · have c2b : decide ((X : Int) < (a : Int)) = true := decide_eq_true (by omega)
            have AL : Aside0 (((cutL l0 ((8 * a : Nat) : Int) a Y ++ cutR l0 ((8 * a : Nat) : Int) Y X).length + 1) * 24 ≤ 140737488355328) := ⟨by
              rw [List.length_append, cutL_length, cutR_length]
              have h9 : Y * a ≤ 128 * 128 := Nat.mul_le_mul (by omega) ha
              omega⟩
            go_wp2_with (first
              | (go_at_call 47; refine (impl_plane.calls 53 _ (cutS l0 ((8 * a : Nat) : Int) Y X) 8 8 (by decide) (by decide) _ (enters_of Try.func53 (by kernel_rfl) rfl) (cut_samples _ _ _ _ A0 c0 l0 (8 * a) (8 * b) a b Y X _ (Kd.C_below HR.out (below_step HWB.out (by repeat (first | (with_reducible first | exact HB.out | apply below_alloc | apply pw_below_drewN | apply below_drew1) | exact HB.out)))) (cell_on (by repeat (first | exact Below.refl _ _ | apply below_alloc | apply pw_below_drewN | apply below_drew1)) (cell_on HB.out HW0.out)) (cell_on (by repeat (first | exact Below.refl _ _ | apply below_alloc | apply pw_below_drewN | apply below_drew1)) ((blk_cell BY.out 0).trans rfl)) (cell_on (by repeat (first | exact Below.refl _ _ | apply below_alloc | apply pw_below_drewN | apply below_drew1)) (cell_on HB.out HW1.out)) (by go_simp) rfl rfl (by omega) (by omega) HL.out c1 c2)).mono ?_; rintro e w1 ⟨v, rfl, ho, hb⟩; obtain ⟨Ap, cp, rfl⟩ := Kd.R_slice ho; have n0_ := Aside0.mk (Kd.S_elder' (by (with_reducible repeat (first | apply Kd.S_alloc | apply Kd.S_drewN | apply Kd.S_drew)); exact HO.out) (Kd.R_base ho) hb); have n1_ := Aside0.mk (Kd.R_lower ho (below_size (by repeat (first | (with_reducible first | exact HB.out | apply below_alloc | apply pw_below_drewN | apply below_drew1) | exact HB.out)))); have n2_ := Aside0.mk (below_step (by repeat (first | (with_reducible first | exact HB.out | apply below_alloc | apply pw_below_drewN | apply below_drew1) | exact HB.out)) hb); have n3_ := Aside0.mk (blk_below (by (with_reducible repeat (first | apply blk_alloc | apply blk_drewN | apply blk_drew)); exact BY.out) hb); clear HO HB BY; have HO := n0_; have HB := n2_; have BY := n3_; have HP := n1_; clear n0_ n1_ n2_ n3_ ho hb; have HA := Aside0.mk (Kd.R_mono (ok' := fun k_ => ((fun _ => True)) k_ ∧ some k_ ≠ (u7 : Value).ownBlock) (Kd.R_apart' HP.out (Kd.S_typed HO.out) (by decide)) (fun k_ hk => ⟨trivial, hk.2⟩)))
              | ((with_reducible refine gate_builtin (b := .append) (xs := #[.tmp 21, .tmp 24]) rfl ?_); at_builtin; refine Kd.S_append (Kd.slice 3 (Kd.int .i64)) (w0 := W) W.heap.size rfl (.tmp 21) (.tmp 24) 22 41 (.slice none 0 0) 24 rfl Try.underlying22 info41 rfl (by decide) (by omega) u7 (cutL l0 ((8 * a : Nat) : Int) a Y ++ cutR l0 ((8 * a : Nat) : Int) Y X) (cutB l0 ((8 * a : Nat) : Int) Y X) [.slice Ap (cutB l0 ((8 * a : Nat) : Int) Y X).length cp] (fun _ => True) (fun k_ => some k_ = (.slice Ap (cutB l0 ((8 * a : Nat) : Int) Y X).length cp : Value).ownBlock) rfl rfl ?aP (fun k_ hk_ => (HA.out).1 k_ hk_.symm) ?aF ?aO ?aB ?aS ?aL ?_; (case aP => exact Kd.M_row (Kd.R_mono (Kd.R_tight rfl HA.out) (fun _ h_ => h_))); (case aB => exact (by repeat (first | (with_reducible first | exact HB.out | apply below_alloc | apply pw_below_drewN | apply below_drew1) | exact HB.out))); (case aF => exact (fun _ _ => trivial)); (case aO => exact Kd.S_mono HO.out (fun k_ hk => ⟨trivial, hk.2⟩)); (case aS => exact (below_size (by repeat (first | (with_reducible first | exact HB.out | apply below_alloc | apply pw_below_drewN | apply below_drew1) | exact HB.out)))); (case aL => exact AL.out); intro v25 w25 ho hb hg hat; have n0_ := Aside0.mk hb; have n1_ := Aside0.mk ho; have n2_ := Aside0.mk (blk_grown BY.out hg (Kd.S_ne HO.out BY.out (by decide))); clear HB HO BY; have HB := n0_; have HO := n1_; have BY := n2_; clear n0_ n1_ n2_; clear ho hb hg hat))
            go_roundg (a - (X + 1))
            case measure => have := HX.out; omega
            case rel =>
              have e := HX.out
              exact ⟨X + 1, by simp, ⟨by omega⟩, ⟨by rw [cutR, ← List.append_assoc]; exact HO.out⟩, HB, BY⟩
          · have c2b : decide ((X : Int) < (a : Int)) = false := decide_eq_false (by omega)
            go_wp2
            go_roundg (b - (Y + 1))
            case measure => have := HK.out; omega
            case rel =>
              have e := HX.out
              have e2 := HK.out
              obtain rfl : X = a := by omega
              exact ⟨Y + 1, by simp, ⟨by omega⟩, ⟨by rw [cutL]; exact HO.out⟩, HB⟩
      · have c1b : decide ((Y : Int) < (b : Int)) = false := decide_eq_false (by omega)
        go_wp2
        go_ret
        have e2 := HK.out
        obtain rfl : Y = b := by omega
        exact ⟨_, rfl, Kd.S_lower HO.out HWS.out, below_step HWB.out HB.out⟩
  · rw [if_neg hg] at h
    exact absurd h (by simp)

/-! ### spec_CutBlocks: function 16 -/
mutual
def spec_CutBlocks.j0 : Nat → List Int → Int → Int → List (List Int) → Bool → Option ((List (List Int)))
  | 0, _, _, _, _, _ => none
  | k + 1, x0, x1, x2, x7, x27 => if x27 = true then (some x7) else (spec_CutBlocks.l0 k x0 x1 x2 x7 0)
def spec_CutBlocks.l0 : Nat → List Int → Int → Int → List (List Int) → Int → Option ((List (List Int)))
  | 0, _, _, _, _, _ => none
  | k + 1, x0, x1, x2, x7, x8 => if x8 < (wrap64 (Int.tdiv x2 8)) then (spec_CutBlocks.l1 k x0 x1 x2 x7 x8 0) else (some x7)
def spec_CutBlocks.l1 : Nat → List Int → Int → Int → List (List Int) → Int → Int → Option ((List (List Int)))
  | 0, _, _, _, _, _, _ => none
  | k + 1, x0, x1, x2, x7, x8, x9 => if x9 < (wrap64 (Int.tdiv x1 8)) then (spec_CutBlocks.l2 k x0 x1 x2 x7 x8 x9 (([] : List Int)) 0) else (spec_CutBlocks.l0 k x0 x1 x2 x7 (wrap64 (x8 + 1)))
def spec_CutBlocks.l2 : Nat → List Int → Int → Int → List (List Int) → Int → Int → List Int → Int → Option ((List (List Int)))
  | 0, _, _, _, _, _, _, _, _ => none
  | k + 1, x0, x1, x2, x7, x8, x9, x10, x11 => if x11 < 64 then (if 0 ≤ (wrap64 ((wrap64 ((wrap64 ((wrap64 ((wrap64 (8 * x8)) + (wrap64 (Int.tdiv x11 8)))) * x1)) + (wrap64 (8 * x9)))) + (Int.tmod x11 8))) then (if (wrap64 ((wrap64 ((wrap64 ((wrap64 ((wrap64 (8 * x8)) + (wrap64 (Int.tdiv x11 8)))) * x1)) + (wrap64 (8 * x9)))) + (Int.tmod x11 8))) < (x0.length : Int) then (if x10.length < 17592186044416 then (spec_CutBlocks.l2 k x0 x1 x2 x7 x8 x9 (x10 ++ [rd x0 (wrap64 ((wrap64 ((wrap64 ((wrap64 ((wrap64 (8 * x8)) + (wrap64 (Int.tdiv x11 8)))) * x1)) + (wrap64 (8 * x9)))) + (Int.tmod x11 8)))]) (wrap64 (x11 + 1))) else (none)) else (none)) else (none)) else (if x7.length < 5864062014805 then (spec_CutBlocks.l1 k x0 x1 x2 (x7 ++ [x10]) x8 (wrap64 (x9 + 1))) else (none))
end
def spec_CutBlocks.f (k : Nat) (l0 : List Int) (a1 : Int) (a2 : Int) : Option ((List (List Int))) := (some (([] : List (List Int)) : List (List Int))).bind fun y112 => ((spec_PlaneOk.f k l0 a1 a2).bind fun t115 => (if t115 = true then (if (Int.tmod a1 8) = 0 then (spec_CutBlocks.j0 k l0 a1 a2 y112 ((Int.tmod a2 8) != 0)) else (spec_CutBlocks.j0 k l0 a1 a2 y112 true)) else (spec_CutBlocks.j0 k l0 a1 a2 y112 true)))
theorem spec_CutBlocks.mono_l : ∀ k, (∀ y0 y1 y2 y3 y4, LeO (spec_CutBlocks.j0 k y0 y1 y2 y3 y4) (spec_CutBlocks.j0 (k + 1) y0 y1 y2 y3 y4)) ∧ (∀ y0 y1 y2 y3 y4, LeO (spec_CutBlocks.l0 k y0 y1 y2 y3 y4) (spec_CutBlocks.l0 (k + 1) y0 y1 y2 y3 y4)) ∧ (∀ y0 y1 y2 y3 y4 y5, LeO (spec_CutBlocks.l1 k y0 y1 y2 y3 y4 y5) (spec_CutBlocks.l1 (k + 1) y0 y1 y2 y3 y4 y5)) ∧ (∀ y0 y1 y2 y3 y4 y5 y6 y7, LeO (spec_CutBlocks.l2 k y0 y1 y2 y3 y4 y5 y6 y7) (spec_CutBlocks.l2 (k + 1) y0 y1 y2 y3 y4 y5 y6 y7))
  | 0 => ⟨fun _ _ _ _ _ r h => by simp [spec_CutBlocks.j0] at h, fun _ _ _ _ _ r h => by simp [spec_CutBlocks.l0] at h, fun _ _ _ _ _ _ r h => by simp [spec_CutBlocks.l1] at h, fun _ _ _ _ _ _ _ _ r h => by simp [spec_CutBlocks.l2] at h⟩
  | k + 1 => by
    obtain ⟨ih0, ih1, ih2, ih3⟩ := spec_CutBlocks.mono_l k
    refine ⟨?_, ?_, ?_, ?_⟩
    · intro y0 y1 y2 y3 y4
      unfold spec_CutBlocks.j0
      repeat' first
      | (with_reducible exact ih0 _ _ _ _ _)
      | (with_reducible exact ih1 _ _ _ _ _)
      | (with_reducible exact ih2 _ _ _ _ _ _)
      | (with_reducible exact ih3 _ _ _ _ _ _ _ _)
      | (with_reducible exact spec_PlaneOk.mono _ _ _ _)
      | (with_reducible exact LeO.refl _)
      | (with_reducible exact LeO.none _)
      | (with_reducible refine LeO.ite ?_ ?_)
      | (with_reducible refine LeO.bind ?_ (fun _ => ?_))
      | exact ih0 _ _ _ _ _
      | exact ih1 _ _ _ _ _
      | exact ih2 _ _ _ _ _ _
      | exact ih3 _ _ _ _ _ _ _ _
      | exact spec_PlaneOk.mono _ _ _ _
      | exact LeO.none _
      | refine LeO.ite ?_ ?_
      | refine LeO.bind ?_ (fun _ => ?_)
    · intro y0 y1 y2 y3 y4
      unfold spec_CutBlocks.l0
      repeat' first
      | (with_reducible exact ih0 _ _ _ _ _)
      | (with_reducible exact ih1 _ _ _ _ _)
      | (with_reducible exact ih2 _ _ _ _ _ _)
      | (with_reducible exact ih3 _ _ _ _ _ _ _ _)
      | (with_reducible exact spec_PlaneOk.mono _ _ _ _)
      | (with_reducible exact LeO.refl _)
      | (with_reducible exact LeO.none _)
      | (with_reducible refine LeO.ite ?_ ?_)
      | (with_reducible refine LeO.bind ?_ (fun _ => ?_))
      | exact ih0 _ _ _ _ _
      | exact ih1 _ _ _ _ _
      | exact ih2 _ _ _ _ _ _
      | exact ih3 _ _ _ _ _ _ _ _
      | exact spec_PlaneOk.mono _ _ _ _
      | exact LeO.none _
      | refine LeO.ite ?_ ?_
      | refine LeO.bind ?_ (fun _ => ?_)
    · intro y0 y1 y2 y3 y4 y5
      unfold spec_CutBlocks.l1
      repeat' first
      | (with_reducible exact ih0 _ _ _ _ _)
      | (with_reducible exact ih1 _ _ _ _ _)
      | (with_reducible exact ih2 _ _ _ _ _ _)
      | (with_reducible exact ih3 _ _ _ _ _ _ _ _)
      | (with_reducible exact spec_PlaneOk.mono _ _ _ _)
      | (with_reducible exact LeO.refl _)
      | (with_reducible exact LeO.none _)
      | (with_reducible refine LeO.ite ?_ ?_)
      | (with_reducible refine LeO.bind ?_ (fun _ => ?_))
      | exact ih0 _ _ _ _ _
      | exact ih1 _ _ _ _ _
      | exact ih2 _ _ _ _ _ _
      | exact ih3 _ _ _ _ _ _ _ _
      | exact spec_PlaneOk.mono _ _ _ _
      | exact LeO.none _
      | refine LeO.ite ?_ ?_
      | refine LeO.bind ?_ (fun _ => ?_)
    · intro y0 y1 y2 y3 y4 y5 y6 y7
      unfold spec_CutBlocks.l2
      repeat' first
      | (with_reducible exact ih0 _ _ _ _ _)
      | (with_reducible exact ih1 _ _ _ _ _)
      | (with_reducible exact ih2 _ _ _ _ _ _)
      | (with_reducible exact ih3 _ _ _ _ _ _ _ _)
      | (with_reducible exact spec_PlaneOk.mono _ _ _ _)
      | (with_reducible exact LeO.refl _)
      | (with_reducible exact LeO.none _)
      | (with_reducible refine LeO.ite ?_ ?_)
      | (with_reducible refine LeO.bind ?_ (fun _ => ?_))
      | exact ih0 _ _ _ _ _
      | exact ih1 _ _ _ _ _
      | exact ih2 _ _ _ _ _ _
      | exact ih3 _ _ _ _ _ _ _ _
      | exact spec_PlaneOk.mono _ _ _ _
      | exact LeO.none _
      | refine LeO.ite ?_ ?_
      | refine LeO.bind ?_ (fun _ => ?_)
theorem spec_CutBlocks.mono : ∀ a0 a1 a2 k, LeO (spec_CutBlocks.f k a0 a1 a2) (spec_CutBlocks.f (k + 1) a0 a1 a2) := by
  intro a0 a1 a2 k
  obtain ⟨ih0, ih1, ih2, ih3⟩ := spec_CutBlocks.mono_l k
  unfold spec_CutBlocks.f
  repeat' first
      | (with_reducible exact ih0 _ _ _ _ _)
      | (with_reducible exact ih1 _ _ _ _ _)
      | (with_reducible exact ih2 _ _ _ _ _ _)
      | (with_reducible exact ih3 _ _ _ _ _ _ _ _)
      | (with_reducible exact spec_PlaneOk.mono _ _ _ _)
      | (with_reducible exact LeO.refl _)
      | (with_reducible exact LeO.none _)
      | (with_reducible refine LeO.ite ?_ ?_)
      | (with_reducible refine LeO.bind ?_ (fun _ => ?_))
      | exact ih0 _ _ _ _ _
      | exact ih1 _ _ _ _ _
      | exact ih2 _ _ _ _ _ _
      | exact ih3 _ _ _ _ _ _ _ _
      | exact spec_PlaneOk.mono _ _ _ _
      | exact LeO.none _
      | refine LeO.ite ?_ ?_
      | refine LeO.bind ?_ (fun _ => ?_)
set_option maxHeartbeats 8000000 in
set_option maxRecDepth 100000 in
theorem spec_CutBlocks.calls (k : Nat) (A0 : Option Addr) (c0 : Nat) (l0 : List Int) (a1 : Int) (a2 : Int) (r : List (List Int)) (w : World) (hr0 : Kd.C (Kd.int .i64) w A0 l0.length l0) (hc0 : l0.length ≤ c0) (h : spec_CutBlocks.f k l0 a1 a2 = some r) :
    Calls Try.prog 16 #[.slice A0 l0.length c0, .int .i64 a1, .int .i64 a2] w fun e w' => ∃ v0_ : Value, e = .returned (v0_) ∧ Kd.S (Kd.slice 3 (Kd.int .i64)) 41 w' w.heap.size (fun _ => True) v0_ r ∧ Below w.heap.size w w' := by
  have HR0 := Aside0.mk hr0
  have HC0 := Aside0.mk hc0
  clear hr0 hc0
  have HB := Aside0.mk (Below.refl w.heap.size w)
  have H : ((some (([] : List (List Int)) : List (List Int))).bind fun y112 => ((spec_PlaneOk.f k l0 a1 a2).bind fun t115 => (if t115 = true then (if (Int.tmod a1 8) = 0 then (spec_CutBlocks.j0 k l0 a1 a2 y112 ((Int.tmod a2 8) != 0)) else (spec_CutBlocks.j0 k l0 a1 a2 y112 true)) else (spec_CutBlocks.j0 k l0 a1 a2 y112 true)))) = some r := h
  clear h
  obtain ⟨y112, hy112⟩ : ∃ y_ : List (List Int), y_ = (([] : List (List Int))) := ⟨_, rfl⟩
  replace H : ((spec_PlaneOk.f k l0 a1 a2).bind fun t115 => (if t115 = true then (if (Int.tmod a1 8) = 0 then (spec_CutBlocks.j0 k l0 a1 a2 y112 ((Int.tmod a2 8) != 0)) else (spec_CutBlocks.j0 k l0 a1 a2 y112 true)) else (spec_CutBlocks.j0 k l0 a1 a2 y112 true))) = some r := by first | (rw [hy112]; with_reducible exact H) | (have H2_ := (Option.bind_some _ _).symm.trans H; rw [hy112]; with_reducible exact H2_) | (have H2_ := (Option.bind_some _ _).symm.trans H; with_reducible exact H2_) | with_reducible exact H | (rw [hy112]; exact H) | exact H
  have Ny112 := Aside0.mk hy112
  clear hy112
  have HC4 := Aside0.mk H
  clear H
  go_enter Try.func16, Try.ntmps16
  go_upto_region 2 with (first | ((with_reducible refine gate_dst (N := 12) rfl ?_); refine Kd.S_lit (Kd.slice 3 (Kd.int .i64)) _ 41 ?hg (N := 12) ?hd (xs := ([] : List (List Int))) (inner := []) (ok := fun _ => True) (okp := fun _ => True) ?hr ?hp (fun _ hk => hk) trivial (Below.refl _ _) (Nat.le_refl _) (by simp) ?_; (case hd => rfl); (case hg => rfl); (case hr => first | (go_simp; done) | (go_simp; rfl)); (case hp => exact (Reps.none _ _)); intro v113 w5 ho6 hb hg_ hnew_; clear hg_ hnew_; (first | rw [← Ny112.out] at ho6 | (simp only [Int.reduceToNat] at ho6; rw [← Ny112.out] at ho6)); have n0_ := Aside0.mk (Kd.S_lower ho6 (below_size (by repeat (first | (with_reducible first | exact HB.out | apply below_alloc | apply pw_below_drewN | apply below_drew1) | exact HB.out)))); have n1_ := Aside0.mk (below_step (by repeat (first | (with_reducible first | exact HB.out | apply below_alloc | apply pw_below_drewN | apply below_drew1) | exact HB.out)) hb); clear HB; have HO114 := n0_; have HB := n1_; clear n0_ n1_; clear hb ho6))
  (try simp only [Act.put, List.setIfInBounds_toArray, List.set_cons_zero, List.set_cons_succ])
  go_cut [27] (fun v27 wc => ∃ (kq : Nat) (x27_3 : Bool), v27 = .bool x27_3 ∧ Aside0 (spec_CutBlocks.j0 kq l0 a1 a2 y112 x27_3 = some r) ∧ Aside0 (kq ≤ k) ∧ Aside0 (Kd.S (Kd.slice 3 (Kd.int .i64)) 41 wc w.heap.size (fun _ => True) v113 y112) ∧ Aside0 (Below w.heap.size w wc))
  case first =>
    have H := HC4.out
    clear HC4
    replace H := Option.bind_eq_some_iff.mp H
    obtain ⟨t115, A70, H⟩ := H
    replace H : (if t115 = true then (if (Int.tmod a1 8) = 0 then (spec_CutBlocks.j0 k l0 a1 a2 y112 ((Int.tmod a2 8) != 0)) else (spec_CutBlocks.j0 k l0 a1 a2 y112 true)) else (spec_CutBlocks.j0 k l0 a1 a2 y112 true)) = some r := H
    have A7 := Aside0.mk A70
    clear A70
    by_cases c8 : t115 = true
    · subst c8
      have H1 : (if (Int.tmod a1 8) = 0 then (spec_CutBlocks.j0 k l0 a1 a2 y112 ((Int.tmod a2 8) != 0)) else (spec_CutBlocks.j0 k l0 a1 a2 y112 true)) = some r := by rw [if_pos rfl] at H; exact H
      clear H
      have H := H1
      clear H1
      by_cases c9 : (Int.tmod a1 8) = 0
      · rw [if_pos c9] at H
        have c9b0 : ((Int.tmod a1 8) == 0) = true := beq_iff_eq.mpr c9
        have c9b1 : ((Int.tmod a1 8) != 0) = false := bne_eq_false_iff_eq.mpr c9
        clear c9
        (first | rw [c9b0] | (simp only [i64_w, i32_w]; rw [c9b0]) | skip)
        have H' := Aside0.mk H
        clear H
        go_wp2_with (first | ((with_reducible refine gate_callee (f := 37) rfl ?_); refine goesL_ (some 16) rfl rfl Try.func37 (by kernel_rfl) rfl #[.slice A0 l0.length c0, .int .i64 a1, .int .i64 a2] rfl (by (try simp only [List.map_toArray, List.map_cons, List.map_nil]); first | done | rfl | (simp only [List.length_drop, List.length_take]; rfl)) ?_; (with_reducible refine (spec_PlaneOk.calls k _ _ l0 a1 a2 true _ ?side1 ?side2 A7.out).mono ?_); (case side1 => repeat (first | exact (Kd.C_below HR0.out HB.out) | (with_reducible refine Kd.C_alloc ?_ _) | (with_reducible refine Kd.C_drewN ?_ _) | (with_reducible refine Kd.C_drew ?_))); (case side2 => exact HC0.out); rintro e w' ⟨rfl, ⟨nd, rfl⟩⟩; refine ⟨_, rfl, ?_⟩))
        go_meet
        case rel => exact ⟨_, (((Int.tmod a2 8) != 0)), (by first | rfl | (simp; done) | (simp [*]; done)), H', ⟨by first | omega | exact Nat.le_refl _⟩, ⟨by (with_reducible repeat (first | apply Kd.S_alloc | apply Kd.S_drewN | apply Kd.S_drew)); exact HO114.out⟩, ⟨by repeat (first | (with_reducible first | exact HB.out | apply below_alloc | apply pw_below_drewN | apply below_drew1) | exact HB.out)⟩⟩
      · rw [if_neg c9] at H
        have c9b0 : ((Int.tmod a1 8) == 0) = false := beq_eq_false_iff_ne.mpr c9
        have c9b1 : ((Int.tmod a1 8) != 0) = true := bne_iff_ne.mpr c9
        (first | rw [c9b0] | (simp only [i64_w, i32_w]; rw [c9b0]) | skip)
        have H' := Aside0.mk H
        clear H
        go_wp2_with (first | ((with_reducible refine gate_callee (f := 37) rfl ?_); refine goesL_ (some 16) rfl rfl Try.func37 (by kernel_rfl) rfl #[.slice A0 l0.length c0, .int .i64 a1, .int .i64 a2] rfl (by (try simp only [List.map_toArray, List.map_cons, List.map_nil]); first | done | rfl | (simp only [List.length_drop, List.length_take]; rfl)) ?_; (with_reducible refine (spec_PlaneOk.calls k _ _ l0 a1 a2 true _ ?side1 ?side2 A7.out).mono ?_); (case side1 => repeat (first | exact (Kd.C_below HR0.out HB.out) | (with_reducible refine Kd.C_alloc ?_ _) | (with_reducible refine Kd.C_drewN ?_ _) | (with_reducible refine Kd.C_drew ?_))); (case side2 => exact HC0.out); rintro e w' ⟨rfl, ⟨nd, rfl⟩⟩; refine ⟨_, rfl, ?_⟩))
        go_meet
        case rel => exact ⟨_, (true), (by first | rfl | (simp; done) | (simp [*]; done)), H', ⟨by first | omega | exact Nat.le_refl _⟩, ⟨by (with_reducible repeat (first | apply Kd.S_alloc | apply Kd.S_drewN | apply Kd.S_drew)); exact HO114.out⟩, ⟨by repeat (first | (with_reducible first | exact HB.out | apply below_alloc | apply pw_below_drewN | apply below_drew1) | exact HB.out)⟩⟩
    · replace c8 := Bool.eq_false_iff.mpr c8
      subst c8
      have H1 : (spec_CutBlocks.j0 k l0 a1 a2 y112 true) = some r := by rw [if_neg (show ¬ (false = true) by decide)] at H; exact H
      clear H
      have H := H1
      clear H1
      have H' := Aside0.mk H
      clear H
      go_wp2_with (first | ((with_reducible refine gate_callee (f := 37) rfl ?_); refine goesL_ (some 16) rfl rfl Try.func37 (by kernel_rfl) rfl #[.slice A0 l0.length c0, .int .i64 a1, .int .i64 a2] rfl (by (try simp only [List.map_toArray, List.map_cons, List.map_nil]); first | done | rfl | (simp only [List.length_drop, List.length_take]; rfl)) ?_; (with_reducible refine (spec_PlaneOk.calls k _ _ l0 a1 a2 false _ ?side1 ?side2 A7.out).mono ?_); (case side1 => repeat (first | exact (Kd.C_below HR0.out HB.out) | (with_reducible refine Kd.C_alloc ?_ _) | (with_reducible refine Kd.C_drewN ?_ _) | (with_reducible refine Kd.C_drew ?_))); (case side2 => exact HC0.out); rintro e w' ⟨rfl, ⟨nd, rfl⟩⟩; refine ⟨_, rfl, ?_⟩))
      go_meet
      case rel => exact ⟨_, (true), (by first | rfl | (simp; done) | (simp [*]; done)), H', ⟨by first | omega | exact Nat.le_refl _⟩, ⟨by (with_reducible repeat (first | apply Kd.S_alloc | apply Kd.S_drewN | apply Kd.S_drew)); exact HO114.out⟩, ⟨by repeat (first | (with_reducible first | exact HB.out | apply below_alloc | apply pw_below_drewN | apply below_drew1) | exact HB.out)⟩⟩
  case rest =>
    clear HC4
    try clear c1
    try clear p2
    try clear c3
    try clear c8
    try clear c9
    try clear c9b0
    try clear c9b1
    obtain ⟨kq, x27_3, rfl, HA, HJ3, HO_7, HB⟩ := hcut
    cases kq with
    | zero => exact absurd HA.out (by simp [spec_CutBlocks.j0])
    | succ kj3 =>
      have H := HA.out
      clear HA
      simp only [spec_CutBlocks.j0] at H
      by_cases c10 : x27_3 = true
      · subst c10
        have H1 : (some y112) = some r := by rw [if_pos rfl] at H; exact H
        clear H
        have H := H1
        clear H1
        obtain rfl := Option.some.inj H
        go_wp2
        go_ret
        exact ⟨_, by first | rfl | (simp [errW_none, errW_some] <;> rfl) | (simp [*, errW_none, errW_some] <;> rfl), by (with_reducible repeat (first | apply Kd.S_alloc | apply Kd.S_drewN | apply Kd.S_drew)); exact HO_7.out, by repeat (first | (with_reducible first | exact HB.out | apply below_alloc | apply pw_below_drewN | apply below_drew1) | exact HB.out)⟩
      · replace c10 := Bool.eq_false_iff.mpr c10
        subst c10
        have H1 : (spec_CutBlocks.l0 kj3 l0 a1 a2 y112 0) = some r := by rw [if_neg (show ¬ (false = true) by decide)] at H; exact H
        clear H
        have H := H1
        clear H1
        have H' := Aside0.mk H
        clear H
        go_wp2
        go_loopg [7, 8] kj3 (fun kq v7 v8 w' => ∃ (x7_2 : List (List Int)) (x8_2 : Int), v8 = .int .i64 x8_2 ∧ Aside0 (spec_CutBlocks.l0 kq l0 a1 a2 x7_2 x8_2 = some r) ∧ Aside0 (kq ≤ kj3) ∧ Aside0 (Kd.S (Kd.slice 3 (Kd.int .i64)) 41 w' w.heap.size (fun _ => True) v7 x7_2) ∧ Aside0 (Below w.heap.size w w'))
        case atStart => exact ⟨(y112), (0), (by first | rfl | (simp; done) | (simp [*]; done)), H', ⟨Nat.le_refl _⟩, ⟨by (with_reducible repeat (first | apply Kd.S_alloc | apply Kd.S_drewN | apply Kd.S_drew)); exact HO_7.out⟩, ⟨by repeat (first | (with_reducible first | exact HB.out | apply below_alloc | apply pw_below_drewN | apply below_drew1) | exact HB.out)⟩⟩
        case round =>
          clear H'
          try clear c1
          try clear p2
          try clear c3
          try clear c8
          try clear c9
          try clear c9b0
          try clear c9b1
          try clear c10
          try clear p2
          obtain ⟨x7_2, x8_2, rfl, HA, HK2, HO_7, HB⟩ := hrel
          cases gk with
          | zero => exact absurd HA.out (by simp [spec_CutBlocks.l0])
          | succ k2 =>
            have H := HA.out
            clear HA
            simp only [spec_CutBlocks.l0] at H
            by_cases c11 : x8_2 < (wrap64 (Int.tdiv a2 8))
            · rw [if_pos c11] at H
              have c11b0 : decide (x8_2 < (wrap64 (Int.tdiv a2 8))) = true := decide_eq_true c11
              clear c11
              have H' := Aside0.mk H
              clear H
              go_wp2
              go_loopg [7, 9] k2 (fun kq v7 v9 w' => ∃ (x7_3 : List (List Int)) (x9_3 : Int), v9 = .int .i64 x9_3 ∧ Aside0 (spec_CutBlocks.l1 kq l0 a1 a2 x7_3 x8_2 x9_3 = some r) ∧ Aside0 (kq ≤ k2) ∧ Aside0 (Kd.S (Kd.slice 3 (Kd.int .i64)) 41 w' w.heap.size (fun _ => True) v7 x7_3) ∧ Aside0 (Below w.heap.size w w'))
              case atStart => exact ⟨(x7_2), (0), (by first | rfl | (simp; done) | (simp [*]; done)), H', ⟨Nat.le_refl _⟩, ⟨by (with_reducible repeat (first | apply Kd.S_alloc | apply Kd.S_drewN | apply Kd.S_drew)); exact HO_7.out⟩, ⟨by repeat (first | (with_reducible first | exact HB.out | apply below_alloc | apply pw_below_drewN | apply below_drew1) | exact HB.out)⟩⟩
              case round =>
                clear H'
                try clear c1
                try clear p2
                try clear c3
                try clear p6
                try clear c8
                try clear c9
                try clear c9b0
                try clear c9b1
                try clear c10
                try clear c11
                try clear c11b0
                try clear p2
                obtain ⟨x7_3, x9_3, rfl, HA, HK3, HO_7, HB⟩ := hrel
                cases gk with
                | zero => exact absurd HA.out (by simp [spec_CutBlocks.l1])
                | succ k3 =>
                  have H := HA.out
                  clear HA
                  simp only [spec_CutBlocks.l1] at H
                  by_cases c12 : x9_3 < (wrap64 (Int.tdiv a1 8))
                  · rw [if_pos c12] at H
                    have c12b0 : decide (x9_3 < (wrap64 (Int.tdiv a1 8))) = true := decide_eq_true c12
                    clear c12
                    obtain ⟨y116, hy116⟩ : ∃ y_ : List Int, y_ = (([] : List Int)) := ⟨_, rfl⟩
                    replace H : (spec_CutBlocks.l2 k3 l0 a1 a2 x7_3 x8_2 x9_3 y116 0) = some r := by first | (rw [hy116]; with_reducible exact H) | (have H2_ := (Option.bind_some _ _).symm.trans H; rw [hy116]; with_reducible exact H2_) | (have H2_ := (Option.bind_some _ _).symm.trans H; with_reducible exact H2_) | with_reducible exact H | (rw [hy116]; exact H) | exact H
                    have Ny116 := Aside0.mk hy116
                    clear hy116
                    have H' := Aside0.mk H
                    clear H
                    go_wp2_with (first | ((with_reducible refine gate_dst (N := 41) rfl ?_); refine Kd.R_lit (Kd.int .i64) _ 3 ?hg (N := 41) ?hd (xs := ([] : List Int)) (inner := []) (ok := fun _ => True) (okp := fun _ => True) ?hr ?hp (fun _ hk => hk) trivial (Below.refl _ _) (Nat.le_refl _) (by simp) ?_; (case hd => rfl); (case hg => rfl); (case hr => first | (go_simp; done) | (go_simp; rfl)); (case hp => exact (Reps.none _ _)); intro v117 w13 ho14 hb hg_ hnew_; clear hg_ hnew_; (first | rw [← Ny116.out] at ho14 | (simp only [Int.reduceToNat] at ho14; rw [← Ny116.out] at ho14)); have n0_ := Aside0.mk (Kd.S_elder' (by (with_reducible repeat (first | apply Kd.S_alloc | apply Kd.S_drewN | apply Kd.S_drew)); exact HO_7.out) (Kd.R_base ho14) hb); have n1_ := Aside0.mk (Kd.R_lower ho14 (below_size (by repeat (first | (with_reducible first | exact HB.out | apply below_alloc | apply pw_below_drewN | apply below_drew1) | exact HB.out)))); have n2_ := Aside0.mk (below_step (by repeat (first | (with_reducible first | exact HB.out | apply below_alloc | apply pw_below_drewN | apply below_drew1) | exact HB.out)) hb); clear HO_7; clear HB; have HO_7 := n0_; have HO118 := n1_; have HB := n2_; clear n0_ n1_ n2_; clear hb ho14))
                    go_loopg [10, 11] k3 (fun kq v10 v11 w' => ∃ (x10_4 : List Int) (x11_4 : Int), v11 = .int .i64 x11_4 ∧ Aside0 (spec_CutBlocks.l2 kq l0 a1 a2 x7_3 x8_2 x9_3 x10_4 x11_4 = some r) ∧ Aside0 (kq ≤ k3) ∧ Aside0 (Kd.S (Kd.slice 3 (Kd.int .i64)) 41 w' w.heap.size (fun k_ => some k_ ≠ (v10 : Value).ownBlock) u7 x7_3) ∧ Aside0 (Kd.R (Kd.int .i64) 3 w' w.heap.size (fun _ => True) v10 x10_4) ∧ Aside0 (Below w.heap.size w w'))
                    case atStart => exact ⟨(y116), (0), (by first | rfl | (simp; done) | (simp [*]; done)), H', ⟨Nat.le_refl _⟩, ⟨by (with_reducible repeat (first | apply Kd.S_alloc | apply Kd.S_drewN | apply Kd.S_drew)); exact Kd.S_mono HO_7.out (fun _ hk => hk.2)⟩, ⟨by (with_reducible repeat (first | apply Kd.R_alloc | apply Kd.R_drewN | apply Kd.R_drew)); exact HO118.out⟩, ⟨by repeat (first | (with_reducible first | exact HB.out | apply below_alloc | apply pw_below_drewN | apply below_drew1) | exact HB.out)⟩⟩
                    case round =>
                      clear H'
                      try clear c1
                      try clear p2
                      try clear c3
                      try clear p6
                      try clear c8
                      try clear c9
                      try clear c9b0
                      try clear c9b1
                      try clear c10
                      try clear c11
                      try clear c11b0
                      try clear c12
                      try clear c12b0
                      try clear p2
                      try clear p6
                      obtain ⟨x10_4, x11_4, rfl, HA, HK4, HO_7, HO_10, HB⟩ := hrel
                      cases gk with
                      | zero => exact absurd HA.out (by simp [spec_CutBlocks.l2])
                      | succ k4 =>
                        have H := HA.out
                        clear HA
                        simp only [spec_CutBlocks.l2] at H
                        by_cases c15 : x11_4 < 64
                        · rw [if_pos c15] at H
                          have c15b0 : decide (x11_4 < 64) = true := decide_eq_true c15
                          clear c15
                          obtain ⟨ji16, hji16⟩ : ∃ j_ : Int, (wrap64 ((wrap64 ((wrap64 ((wrap64 ((wrap64 (8 * x8_2)) + (wrap64 (Int.tdiv x11_4 8)))) * a1)) + (wrap64 (8 * x9_3)))) + (Int.tmod x11_4 8))) = j_ := ⟨_, rfl⟩
                          replace H : (if 0 ≤ (ji16) then (if (ji16) < (l0.length : Int) then (if x10_4.length < 17592186044416 then (spec_CutBlocks.l2 k4 l0 a1 a2 x7_3 x8_2 x9_3 (x10_4 ++ [rd l0 (ji16)]) (wrap64 (x11_4 + 1))) else (none)) else (none)) else (none)) = some r := by first | (rw [hji16] at H; exact H) | (simp only [hji16] at H ⊢; exact H)
                          have hji16w : (IntKind.i64.wrap ((wrap64 ((wrap64 ((wrap64 ((wrap64 (8 * x8_2)) + (wrap64 (Int.tdiv x11_4 8)))) * a1)) + (wrap64 (8 * x9_3)))) + (Int.tmod x11_4 8))) = ji16 := (i64_w _).trans hji16
                          by_cases c17 : 0 ≤ (ji16)
                          · rw [if_pos c17] at H
                            have c17b0 : decide (0 ≤ (ji16)) = true := decide_eq_true c17
                            clear c17
                            by_cases c18 : (ji16) < (l0.length : Int)
                            · rw [if_pos c18] at H
                              have c18b0 : decide ((ji16) < (l0.length : Int)) = true := decide_eq_true c18
                              clear c18
                              by_cases c19 : x10_4.length < 17592186044416
                              · rw [if_pos c19] at H
                                have LMc19 := Aside0.mk c19
                                clear c19
                                obtain ⟨y120, hy120⟩ : ∃ y_ : List Int, y_ = (x10_4 ++ [rd l0 (ji16)]) := ⟨_, rfl⟩
                                replace H : (spec_CutBlocks.l2 k4 l0 a1 a2 x7_3 x8_2 x9_3 y120 (wrap64 (x11_4 + 1))) = some r := by first | (rw [hy120]; with_reducible exact H) | (have H2_ := (Option.bind_some _ _).symm.trans H; rw [hy120]; with_reducible exact H2_) | (have H2_ := (Option.bind_some _ _).symm.trans H; with_reducible exact H2_) | with_reducible exact H | (rw [hy120]; exact H) | exact H
                                have Ny120 := Aside0.mk hy120
                                clear hy120
                                have H' := Aside0.mk H
                                clear H
                                have p119 : 0 ≤ ((ji16) : Int) := of_decide_eq_true (by first | (with_reducible assumption) | assumption)
                                have q119 : (ji16) < (l0.length : Int) := of_decide_eq_true (by first | (with_reducible assumption) | assumption)
                                obtain ⟨ad119, e119, hx119_0⟩ := Kd.at_int HR0.out (ji16) p119 q119
                                cases e119
                                replace hx119_0 := (HB.out.cell (World.block_lt_of_cell? w _ hx119_0)).trans hx119_0
                                replace p119 := eq_true p119
                                replace q119 := eq_true q119
                                go_wp2_with (first | ((with_reducible refine gate_builtin (b := .append) (xs := #[.tmp 46, .tmp 63]) rfl ?_); at_builtin; refine Kd.R_append (Kd.int .i64) (w0 := w) w.heap.size rfl (.tmp 46) (.tmp 63) 41 3 (.int .i64 0) 8 rfl Try.underlying41 info3 rfl (by decide) (by omega) u10 x10_4 (rd l0 (ji16)) [.int .i64 (rd l0 (ji16))] (fun _ => True) (fun _ => False) rfl rfl ?aP (fun _ hk => hk.elim) ?aF ?aO ?aB ?aS ?aL ?_; (case aP => exact rfl); (case aB => exact (by repeat (first | (with_reducible first | exact HB.out | apply below_alloc | apply pw_below_drewN | apply below_drew1) | exact HB.out))); (case aF => exact (fun _ _ => trivial)); (case aO => exact (by (with_reducible repeat (first | apply Kd.R_alloc | apply Kd.R_drewN | apply Kd.R_drew)); exact HO_10.out)); (case aS => exact (below_size (by repeat (first | (with_reducible first | exact HB.out | apply below_alloc | apply pw_below_drewN | apply below_drew1) | exact HB.out)))); (case aL => have := LMc19.out; omega); intro v121 w20 ho hb hg hat; rw [← Ny120.out] at ho; have n0_ := Aside0.mk (Kd.S_after (ok := (fun _ => True)) (by (with_reducible repeat (first | apply Kd.S_alloc | apply Kd.S_drewN | apply Kd.S_drew)); exact Kd.S_mono HO_7.out (fun _ hk => ⟨trivial, hk⟩)) hg hat); have n1_ := Aside0.mk (hb); have n2_ := Aside0.mk (ho); clear HO_7; clear HB; clear HO_10; have HO_7 := n0_; have HB := n1_; have HO122 := n2_; clear n0_ n1_ n2_; clear ho hb hg hat))
                                go_roundg k4
                                case measure => have := HJ3.out; have := HK2.out; have := HK3.out; have := HK4.out; omega
                                case rel => exact ⟨(y120), (wrap64 (x11_4 + 1)), (by first | rfl | (simp; done) | (simp [*]; done)), H', ⟨by have := HJ3.out; have := HK2.out; have := HK3.out; have := HK4.out; omega⟩, ⟨by (with_reducible repeat (first | apply Kd.S_alloc | apply Kd.S_drewN | apply Kd.S_drew)); exact Kd.S_mono HO_7.out (fun _ hk => hk.2)⟩, ⟨by (with_reducible repeat (first | apply Kd.R_alloc | apply Kd.R_drewN | apply Kd.R_drew)); exact HO122.out⟩, ⟨by repeat (first | (with_reducible first | exact HB.out | apply below_alloc | apply pw_below_drewN | apply below_drew1) | exact HB.out)⟩⟩
                              · rw [if_neg c19] at H
                                exact absurd H (by simp)
                            · rw [if_neg c18] at H
                              exact absurd H (by simp)
                          · rw [if_neg c17] at H
                            exact absurd H (by simp)
                        · rw [if_neg c15] at H
                          have c15b0 : decide (x11_4 < 64) = false := decide_eq_false c15
                          clear c15
                          by_cases c21 : x7_3.length < 5864062014805
                          · rw [if_pos c21] at H
                            have LMc21 := Aside0.mk c21
                            clear c21
                            obtain ⟨y123, hy123⟩ : ∃ y_ : List (List Int), y_ = (x7_3 ++ [x10_4]) := ⟨_, rfl⟩
                            replace H : (spec_CutBlocks.l1 k4 l0 a1 a2 y123 x8_2 (wrap64 (x9_3 + 1))) = some r := by first | (rw [hy123]; with_reducible exact H) | (have H2_ := (Option.bind_some _ _).symm.trans H; rw [hy123]; with_reducible exact H2_) | (have H2_ := (Option.bind_some _ _).symm.trans H; with_reducible exact H2_) | with_reducible exact H | (rw [hy123]; exact H) | exact H
                            have Ny123 := Aside0.mk hy123
                            clear hy123
                            have H' := Aside0.mk H
                            clear H
                            obtain ⟨Ao23, co23, eo23⟩ := Kd.R_slice HO_10.out
                            subst eo23
                            go_wp2_with (first | ((with_reducible refine gate_builtin (b := .append) (xs := #[.tmp 65, .tmp 67]) rfl ?_); at_builtin; refine Kd.S_append (Kd.slice 3 (Kd.int .i64)) (w0 := w) w.heap.size rfl (.tmp 65) (.tmp 67) 22 41 (.slice none 0 0) 24 rfl Try.underlying22 info41 rfl (by decide) (by omega) u7 x7_3 x10_4 [.slice Ao23 x10_4.length co23] (fun _ => True) (fun k_ => some k_ = (.slice Ao23 x10_4.length co23 : Value).ownBlock) rfl rfl ?aP (fun k_ hk_ => ((Kd.R_mono (ok' := fun k_ => ((fun _ => True)) k_ ∧ some k_ ≠ (u7 : Value).ownBlock) (Kd.R_apart' (HO_10.out) (Kd.S_typed HO_7.out) (by decide)) (fun k_ hk => ⟨trivial, hk.2⟩))).1 k_ hk_.symm) ?aF ?aO ?aB ?aS ?aL ?_; (case aP => exact Kd.M_row (Kd.R_mono (Kd.R_tight rfl (Kd.R_mono (ok' := fun k_ => ((fun _ => True)) k_ ∧ some k_ ≠ (u7 : Value).ownBlock) (Kd.R_apart' (HO_10.out) (Kd.S_typed HO_7.out) (by decide)) (fun k_ hk => ⟨trivial, hk.2⟩))) (fun _ h_ => h_))); (case aB => exact (by repeat (first | (with_reducible first | exact HB.out | apply below_alloc | apply pw_below_drewN | apply below_drew1) | exact HB.out))); (case aF => exact (fun _ _ => trivial)); (case aO => exact (by (with_reducible repeat (first | apply Kd.S_alloc | apply Kd.S_drewN | apply Kd.S_drew)); exact Kd.S_mono HO_7.out (fun k_ hk => ⟨trivial, fun e_ => hk e_⟩))); (case aS => exact (below_size (by repeat (first | (with_reducible first | exact HB.out | apply below_alloc | apply pw_below_drewN | apply below_drew1) | exact HB.out)))); (case aL => have := LMc21.out; omega); intro v124 w22 ho hb hg hat; rw [← Ny123.out] at ho; have n0_ := Aside0.mk (hb); have n1_ := Aside0.mk (ho); clear HB; clear HO_7; clear HO_10; have HB := n0_; have HO125 := n1_; clear n0_ n1_; clear ho hb hg hat))
                            go_roundg k4
                            case measure => have := HJ3.out; have := HK2.out; have := HK3.out; have := HK4.out; omega
                            case rel => exact ⟨(y123), (wrap64 (x9_3 + 1)), (by first | rfl | (simp; done) | (simp [*]; done)), H', ⟨by have := HJ3.out; have := HK2.out; have := HK3.out; have := HK4.out; omega⟩, ⟨by (with_reducible repeat (first | apply Kd.S_alloc | apply Kd.S_drewN | apply Kd.S_drew)); exact HO125.out⟩, ⟨by repeat (first | (with_reducible first | exact HB.out | apply below_alloc | apply pw_below_drewN | apply below_drew1) | exact HB.out)⟩⟩
                          · rw [if_neg c21] at H
                            exact absurd H (by simp)
                  · rw [if_neg c12] at H
                    have c12b0 : decide (x9_3 < (wrap64 (Int.tdiv a1 8))) = false := decide_eq_false c12
                    clear c12
                    have H' := Aside0.mk H
                    clear H
                    go_wp2
                    go_roundg k3
                    case measure => have := HJ3.out; have := HK2.out; have := HK3.out; omega
                    case rel => exact ⟨(x7_3), (wrap64 (x8_2 + 1)), (by first | rfl | (simp; done) | (simp [*]; done)), H', ⟨by have := HJ3.out; have := HK2.out; have := HK3.out; omega⟩, ⟨by (with_reducible repeat (first | apply Kd.S_alloc | apply Kd.S_drewN | apply Kd.S_drew)); exact HO_7.out⟩, ⟨by repeat (first | (with_reducible first | exact HB.out | apply below_alloc | apply pw_below_drewN | apply below_drew1) | exact HB.out)⟩⟩
            · rw [if_neg c11] at H
              have c11b0 : decide (x8_2 < (wrap64 (Int.tdiv a2 8))) = false := decide_eq_false c11
              clear c11
              obtain rfl := Option.some.inj H
              go_wp2
              go_ret
              exact ⟨_, by first | rfl | (simp [errW_none, errW_some] <;> rfl) | (simp [*, errW_none, errW_some] <;> rfl), by (with_reducible repeat (first | apply Kd.S_alloc | apply Kd.S_drewN | apply Kd.S_drew)); exact HO_7.out, by repeat (first | (with_reducible first | exact HB.out | apply below_alloc | apply pw_below_drewN | apply below_drew1) | exact HB.out)⟩

def cutI (l : List Int) (w h : Int) : List (List Int) := if cutG l w h then cutL l w (w.toNat / 8) (h.toNat / 8) else []
def cutT (l : List Int) (wd : Int) (Y X : Nat) (i : Nat) : List Int := (List.range i).map fun (i : Nat) => cutS l wd Y X ((i / 8 : Nat) : Int) ((i % 8 : Nat) : Int)
theorem cutT_succ (l : List Int) (wd : Int) (Y X i : Nat) : cutT l wd Y X (i + 1) = cutT l wd Y X i ++ [cutS l wd Y X ((i / 8 : Nat) : Int) ((i % 8 : Nat) : Int)] := by simp [cutT, List.range_succ]
theorem cutT_length (l : List Int) (wd : Int) (Y X i : Nat) : (cutT l wd Y X i).length = i := by simp [cutT]
theorem cut64 (g : Int → Int → Int) : ((List.range 64).map fun (i : Nat) => g ((i / 8 : Nat) : Int) ((i % 8 : Nat) : Int)) = planeL g 8 8 := by rfl
theorem cutT_64 (l : List Int) (wd : Int) (Y X : Nat) : cutT l wd Y X 64 = cutB l wd Y X := cut64 _
theorem cutS_nat (l : List Int) (wd Y X r q : Nat) : cutS l wd Y X r q = rd l (((8 * Y + r) * wd + 8 * X + q : Nat) : Int) := by
  unfold cutS
  rw [Int.toNat_natCast, Int.toNat_natCast, Int.toNat_natCast, Int.toNat_natCast, Int.toNat_natCast]
theorem cut_q1 {i : Nat} (hi : i < 64) : wrap64 (Int.tdiv (i : Int) 8) = ((i / 8 : Nat) : Int) := by
  rw [show Int.tdiv (i : Int) 8 = ((i / 8 : Nat) : Int) from by rw [Int.tdiv_eq_ediv_of_nonneg (by omega)]; omega]
  exact w64n (by omega)
theorem cut_q2 (i : Nat) : Int.tmod (i : Int) 8 = ((i % 8 : Nat) : Int) := by rw [Int.tmod_eq_emod_of_nonneg (by omega)]; omega
theorem cut_e1 {i : Nat} (hi : i < 64) : wrap64 ((i : Int) + 1) = ((i + 1 : Nat) : Int) := by
  rw [show (i : Int) + 1 = ((i + 1 : Nat) : Int) from rfl]
  exact w64n (by omega)
theorem cut_e2 {i : Nat} (hi : i ≤ 128) : wrap64 ((i : Int) + 1) = ((i + 1 : Nat) : Int) := by
  rw [show (i : Int) + 1 = ((i + 1 : Nat) : Int) from rfl]
  exact w64n (by omega)
theorem cut_q8 {a : Nat} (ha : a ≤ 128) : wrap64 (Int.tdiv ((8 * a : Nat) : Int) 8) = (a : Int) := by
  rw [show Int.tdiv ((8 * a : Nat) : Int) 8 = (a : Int) from by rw [Int.tdiv_eq_ediv_of_nonneg (by omega)]; omega]
  exact w64n (by omega)
set_option maxHeartbeats 2000000 in
theorem sCut_l2 (l : List Int) (a b Y X : Nat) (ha : a ≤ 128) (hb : b ≤ 128) (hl : l.length = 8 * b * (8 * a)) (hY : Y < b) (hX : X < a) (out : List (List Int)) (ho : out.length < 5864062014805) (R : List (List Int))
    (hR : Ev (fun k => spec_CutBlocks.l1 k l ((8 * a : Nat) : Int) ((8 * b : Nat) : Int) (out ++ [cutB l ((8 * a : Nat) : Int) Y X]) Y ((X + 1 : Nat) : Int)) R) :
    ∀ (d i : Nat), i + d = 64 → Ev (fun k => spec_CutBlocks.l2 k l ((8 * a : Nat) : Int) ((8 * b : Nat) : Int) out Y X (cutT l ((8 * a : Nat) : Int) Y X i) i) R := by
  intro d
  induction d with
  | zero =>
    intro i hi
    obtain rfl : i = 64 := by omega
    refine Ev.step (fun k => by rw [spec_CutBlocks.l2]) (evNeg (by omega) (evPos ho ?_))
    rw [cutT_64, cut_e2 (by omega)]
    exact hR
  | succ d ih =>
    intro i hi
    have hi64 : i < 64 := by omega
    have hi64z : (i : Int) < 64 := by omega
    have hol : (cutT l ((8 * a : Nat) : Int) Y X i).length < 17592186044416 := by rw [cutT_length]; omega
    have hd1 : i + 1 + d = 64 := by omega
    have w1 : 8 * a ≤ 1024 := by omega
    have w2 : Y ≤ 128 := by omega
    have w3 : X ≤ 128 := by omega
    have w4 : i / 8 < 8 := by omega
    have w5 : i % 8 < 8 := by omega
    have q1 := cut_q1 hi64
    have q2 := cut_q2 i
    have e1 := cut_e1 hi64
    have hfit : (8 * Y + i / 8) * (8 * a) + 8 * X + i % 8 < l.length := by
      rw [hl]
      exact cut_fit rfl rfl hY hX w4 w5
    obtain ⟨r1, r2, r3, r4, r5, r6⟩ := cut_vals (W := 8 * a) (Y := Y) (X := X) (r := i / 8) (q := i % 8) w1 w2 w3 w4 w5
    refine Ev.step (fun k => by rw [spec_CutBlocks.l2]) (evPos hi64z ?_)
    rw [q1, q2, r1, r2, r3, r4, r5, r6, e1]
    refine evPos (Int.natCast_nonneg _) (evPos (Int.ofNat_lt.mpr hfit) (evPos hol ?_))
    rw [← cutS_nat, ← cutT_succ]
    exact ih (i + 1) hd1
theorem sCut_l1 (l : List Int) (a b Y : Nat) (ha : a ≤ 128) (hb : b ≤ 128) (hl : l.length = 8 * b * (8 * a)) (hY : Y < b) (R : List (List Int))
    (hR : Ev (fun k => spec_CutBlocks.l0 k l ((8 * a : Nat) : Int) ((8 * b : Nat) : Int) (cutL l ((8 * a : Nat) : Int) a (Y + 1)) ((Y + 1 : Nat) : Int)) R) :
    ∀ (d X : Nat), X + d = a → Ev (fun k => spec_CutBlocks.l1 k l ((8 * a : Nat) : Int) ((8 * b : Nat) : Int) (cutL l ((8 * a : Nat) : Int) a Y ++ cutR l ((8 * a : Nat) : Int) Y X) Y X) R := by
  have hY8 : Y ≤ 128 := by omega
  have q2 := cut_q8 ha
  intro d
  induction d with
  | zero =>
    intro X hX
    obtain rfl : X = a := by omega
    refine Ev.step (fun k => by rw [spec_CutBlocks.l1]) ?_
    rw [q2]
    refine evNeg (by omega) ?_
    rw [cut_e2 hY8, ← cutL]
    exact hR
  | succ d ih =>
    intro X hX
    refine Ev.step (fun k => by rw [spec_CutBlocks.l1]) ?_
    rw [q2]
    refine evPos (by omega) ?_
    have hlen : (cutL l ((8 * a : Nat) : Int) a Y ++ cutR l ((8 * a : Nat) : Int) Y X).length < 5864062014805 := by
      rw [List.length_append, cutL_length, cutR_length]
      have h9 : Y * a ≤ 128 * 128 := Nat.mul_le_mul (by omega) ha
      omega
    refine sCut_l2 l a b Y X ha hb hl hY (by omega) _ hlen R ?_ 64 0 (by omega)
    rw [List.append_assoc, show cutR l ((8 * a : Nat) : Int) Y X ++ [cutB l ((8 * a : Nat) : Int) Y X] = cutR l ((8 * a : Nat) : Int) Y (X + 1) from rfl]
    exact ih (X + 1) (by omega)
theorem sCut_l0 (l : List Int) (a b : Nat) (ha : a ≤ 128) (hb : b ≤ 128) (hl : l.length = 8 * b * (8 * a)) :
    ∀ (d Y : Nat), Y + d = b → Ev (fun k => spec_CutBlocks.l0 k l ((8 * a : Nat) : Int) ((8 * b : Nat) : Int) (cutL l ((8 * a : Nat) : Int) a Y) Y) (cutL l ((8 * a : Nat) : Int) a b) := by
  have q2 := cut_q8 hb
  intro d
  induction d with
  | zero =>
    intro Y hY
    obtain rfl : Y = b := by omega
    refine Ev.step (fun k => by rw [spec_CutBlocks.l0]) ?_
    rw [q2]
    exact evNeg (by omega) (Ev.now _)
  | succ d ih =>
    intro Y hY
    refine Ev.step (fun k => by rw [spec_CutBlocks.l0]) ?_
    rw [q2]
    refine evPos (by omega) ?_
    have key := sCut_l1 l a b Y ha hb hl (by omega) _ (ih (Y + 1) (by omega)) a 0 (by omega)
    rw [cutR, List.append_nil] at key
    exact key
theorem sCutBlocks_f (l : List Int) (w h : Int) (hl : l.length ≤ 1048576) : Ev (fun k => spec_CutBlocks.f k l w h) (cutI l w h) := by
  have no : ¬ cutG l w h → Ev (fun k => spec_CutBlocks.j0 k l w h [] true) (cutI l w h) := fun hn => by
    unfold cutI
    rw [if_neg hn]
    exact Ev.step (fun k => by rw [spec_CutBlocks.j0]) (evPos rfl (Ev.now _))
  unfold spec_CutBlocks.f
  refine evBind (Ev.now _) (evBind (sPlaneOk_f l w h (by unfold maxLen; omega)) (evIf (fun h1 => evIf (fun h2 => ?_) (fun h2 => no (fun hg => h2 hg.2.1))) (fun h1 => no (fun hg => h1 hg.1))))
  by_cases h3 : Int.tmod h 8 = 0
  · have hg : cutG l w h := ⟨h1, h2, h3⟩
    rw [show (Int.tmod h 8 != 0) = false from bne_eq_false_iff_eq.mpr h3]
    refine Ev.step (fun k => by rw [spec_CutBlocks.j0]) (evNeg (by simp) ?_)
    unfold cutI
    rw [if_pos hg]
    obtain ⟨a, b, rfl, rfl, ha, hb, hl⟩ := cut_sides hg
    rw [show ((8 * a : Nat) : Int).toNat / 8 = a from by omega, show ((8 * b : Nat) : Int).toNat / 8 = b from by omega]
    exact sCut_l0 l a b ha hb hl b 0 (by omega)
  · rw [show (Int.tmod h 8 != 0) = true from bne_iff_ne.mpr h3]
    exact no (fun hg => h3 hg.2.2)

/-! ### laws_toIntS: function 17 -/
def laws_toIntS.l0 : Nat → List Int → List Int → Int → Option (List Int)
  | 0, _, _, _ => none
  | k + 1, x0, x3, x4 => if x4 < (x0.length : Int) then (if 0 ≤ x4 then (if x4 < (x3.length : Int) then (laws_toIntS.l0 k x0 (x3.set (x4 : Int).toNat (rd x0 x4)) (wrap64 (x4 + 1))) else (none)) else (none)) else (some x3)
def laws_toIntS.f (k : Nat) (l0 : List Int) : Option (List Int) := if 0 ≤ (l0.length : Int) then (if ((l0.length : Int) : Int).toNat ≤ 35184372088832 then (laws_toIntS.l0 k l0 (List.replicate ((l0.length : Int) : Int).toNat 0) 0) else (none)) else (none)
theorem laws_toIntS.mono_l : ∀ k, (∀ y0 y1 y2, LeO (laws_toIntS.l0 k y0 y1 y2) (laws_toIntS.l0 (k + 1) y0 y1 y2))
  | 0 => fun _ _ _ r h => by simp [laws_toIntS.l0] at h
  | k + 1 => by
    have ih0 := laws_toIntS.mono_l k
    · intro y0 y1 y2
      unfold laws_toIntS.l0
      repeat' first
      | (with_reducible exact ih0 _ _ _)
      | (with_reducible exact LeO.refl _)
      | (with_reducible exact LeO.none _)
      | (with_reducible refine LeO.ite ?_ ?_)
      | (with_reducible refine LeO.bind ?_ (fun _ => ?_))
      | exact ih0 _ _ _
      | exact LeO.none _
      | refine LeO.ite ?_ ?_
      | refine LeO.bind ?_ (fun _ => ?_)
theorem laws_toIntS.mono : ∀ a0 k, LeO (laws_toIntS.f k a0) (laws_toIntS.f (k + 1) a0) := by
  intro a0 k
  have ih0 := laws_toIntS.mono_l k
  unfold laws_toIntS.f
  repeat' first
      | (with_reducible exact ih0 _ _ _)
      | (with_reducible exact LeO.refl _)
      | (with_reducible exact LeO.none _)
      | (with_reducible refine LeO.ite ?_ ?_)
      | (with_reducible refine LeO.bind ?_ (fun _ => ?_))
      | exact ih0 _ _ _
      | exact LeO.none _
      | refine LeO.ite ?_ ?_
      | refine LeO.bind ?_ (fun _ => ?_)
set_option maxHeartbeats 8000000 in
set_option maxRecDepth 100000 in
theorem laws_toIntS.calls (k : Nat) (A0 : Option Addr) (c0 : Nat) (l0 : List Int) (r : List Int) (w : World) (hr0 : Kd.C (Kd.int .i64) w A0 l0.length l0) (hc0 : l0.length ≤ c0) (h : laws_toIntS.f k l0 = some r) :
    Calls Try.prog 17 #[.slice A0 l0.length c0] w fun e w' => ∃ v0_ : Value, e = .returned (v0_) ∧ Kd.R (Kd.int .i64) 3 w' w.heap.size (fun _ => True) v0_ r ∧ Below w.heap.size w w' := by
  have HR0 := Aside0.mk hr0
  have HC0 := Aside0.mk hc0
  clear hr0 hc0
  have HB := Aside0.mk (Below.refl w.heap.size w)
  have H : (if 0 ≤ (l0.length : Int) then (if ((l0.length : Int) : Int).toNat ≤ 35184372088832 then (laws_toIntS.l0 k l0 (List.replicate ((l0.length : Int) : Int).toNat 0) 0) else (none)) else (none)) = some r := h
  clear h
  by_cases c2 : 0 ≤ (l0.length : Int)
  · rw [if_pos c2] at H
    have c2b0 := eq_true c2
    have c2b1 : decide (0 ≤ (l0.length : Int)) = true := decide_eq_true c2
    clear c2
    by_cases c3 : ((l0.length : Int) : Int).toNat ≤ 35184372088832
    · rw [if_pos c3] at H
      have c3b0 := eq_true c3
      have c3b1 : decide (((l0.length : Int) : Int).toNat ≤ 35184372088832) = true := decide_eq_true c3
      clear c3
      obtain ⟨y126, hy126⟩ : ∃ y_ : List Int, y_ = (List.replicate ((l0.length : Int) : Int).toNat 0) := ⟨_, rfl⟩
      replace H : (laws_toIntS.l0 k l0 y126 0) = some r := by first | (rw [hy126]; with_reducible exact H) | (have H2_ := (Option.bind_some _ _).symm.trans H; rw [hy126]; with_reducible exact H2_) | (have H2_ := (Option.bind_some _ _).symm.trans H; with_reducible exact H2_) | with_reducible exact H | (rw [hy126]; exact H) | exact H
      have Ny126 := Aside0.mk hy126
      clear hy126
      have H' := Aside0.mk H
      clear H
      go_enter Try.func17, Try.ntmps17
      go_wp2_with (first | ((with_reducible refine gate_dst (N := 7) rfl ?_); refine Kd.R_make (Kd.int .i64) _ 3 rfl (N := 7) rfl 41 _ _ rfl (l0.length : Int) rfl rfl Try.underlying41 (.int .i64 0) 8 info3 rfl (by decide) (by omega) 0 (ok := fun _ => True) (okp := fun _ => True) rfl (fun _ hk => hk) trivial (of_decide_eq_true (by first | (with_reducible assumption) | assumption)) (Nat.le_trans (Nat.mul_le_mul_right _ (of_decide_eq_true (by first | (with_reducible assumption) | assumption) : (l0.length : Int).toNat ≤ 35184372088832)) (by omega)) (Below.refl _ _) (Nat.le_refl _) ?_; intro v127 w4 ho5 hb hg_ hnew_; clear hg_ hnew_; (first | rw [← Ny126.out] at ho5 | (simp only [Int.reduceToNat] at ho5; rw [← Ny126.out] at ho5)); have n0_ := Aside0.mk (Kd.R_lower ho5 (below_size (by repeat (first | (with_reducible first | exact HB.out | apply below_alloc | apply pw_below_drewN | apply below_drew1) | exact HB.out)))); have n1_ := Aside0.mk (below_step (by repeat (first | (with_reducible first | exact HB.out | apply below_alloc | apply pw_below_drewN | apply below_drew1) | exact HB.out)) hb); clear HB; have HO128 := n0_; have HB := n1_; clear n0_ n1_; clear hb ho5))
      go_loopg [4] k (fun kq v4 w' => ∃ (x3_1 : List Int) (x4_1 : Int), v4 = .int .i64 x4_1 ∧ Aside0 (laws_toIntS.l0 kq l0 x3_1 x4_1 = some r) ∧ Aside0 (kq ≤ k) ∧ Aside0 (Kd.R (Kd.int .i64) 3 w' w.heap.size (fun _ => True) v127 x3_1) ∧ Aside0 (Below w.heap.size w w'))
      case atStart => exact ⟨(y126), (0), (by first | rfl | (simp; done) | (simp [*]; done)), H', ⟨Nat.le_refl _⟩, ⟨by (with_reducible repeat (first | apply Kd.R_alloc | apply Kd.R_drewN | apply Kd.R_drew)); exact HO128.out⟩, ⟨by repeat (first | (with_reducible first | exact HB.out | apply below_alloc | apply pw_below_drewN | apply below_drew1) | exact HB.out)⟩⟩
      case round =>
        clear H'
        try clear c1
        try clear c2
        try clear c2b0
        try clear c2b1
        try clear p2
        try clear c3
        try clear c3b0
        try clear c3b1
        obtain ⟨x3_1, x4_1, rfl, HA, HK1, HO_3, HB⟩ := hrel
        cases gk with
        | zero => exact absurd HA.out (by simp [laws_toIntS.l0])
        | succ k1 =>
          have H := HA.out
          clear HA
          simp only [laws_toIntS.l0] at H
          by_cases c6 : x4_1 < (l0.length : Int)
          · rw [if_pos c6] at H
            have c6b0 : decide (x4_1 < (l0.length : Int)) = true := decide_eq_true c6
            clear c6
            by_cases c7 : 0 ≤ x4_1
            · rw [if_pos c7] at H
              have c7b0 : decide (0 ≤ x4_1) = true := decide_eq_true c7
              clear c7
              by_cases c8 : x4_1 < (x3_1.length : Int)
              · rw [if_pos c8] at H
                have c8b0 : decide (x4_1 < (x3_1.length : Int)) = true := decide_eq_true c8
                clear c8
                obtain ⟨y130, hy130⟩ : ∃ y_ : List Int, y_ = (x3_1.set (x4_1 : Int).toNat (rd l0 x4_1)) := ⟨_, rfl⟩
                replace H : (laws_toIntS.l0 k1 l0 y130 (wrap64 (x4_1 + 1))) = some r := by first | (rw [hy130]; with_reducible exact H) | (have H2_ := (Option.bind_some _ _).symm.trans H; rw [hy130]; with_reducible exact H2_) | (have H2_ := (Option.bind_some _ _).symm.trans H; with_reducible exact H2_) | with_reducible exact H | (rw [hy130]; exact H) | exact H
                have Ny130 := Aside0.mk hy130
                clear hy130
                have H' := Aside0.mk H
                clear H
                have p129 : 0 ≤ (x4_1 : Int) := of_decide_eq_true (by first | (with_reducible assumption) | assumption)
                have q129 : x4_1 < (l0.length : Int) := of_decide_eq_true (by first | (with_reducible assumption) | assumption)
                obtain ⟨ad129, e129, hx129_0⟩ := Kd.at_int HR0.out x4_1 p129 q129
                cases e129
                replace hx129_0 := (HB.out.cell (World.block_lt_of_cell? w _ hx129_0)).trans hx129_0
                replace p129 := eq_true p129
                replace q129 := eq_true q129
                have p9 : 0 ≤ (x4_1 : Int) := of_decide_eq_true (by first | (with_reducible assumption) | assumption)
                have q9 : (x4_1 : Int) < ((x3_1.length : Int) : Int) := of_decide_eq_true (by first | (with_reducible assumption) | assumption)
                obtain ⟨go9, co9, eo9, gb9, gl9, cl9, HG9⟩ := Kd.R_form HO_3.out (by omega)
                (first | cases eo9 | (injection eo9 with ea_ en_ ec_; (first | subst ea_ | (injection ea_ with ea_; subst ea_)); subst ec_; clear en_))
                have GB9 := Aside0.mk gb9
                have GG9 := Aside0.mk HG9
                clear gb9 gl9 HG9
                obtain ⟨hx9_0, hf9_0⟩ := Kd.R_celln 0 HO_3.out (x4_1 : Int) p9 q9
                replace p9 := eq_true p9
                replace q9 := eq_true q9
                have HP10 := Kd.R_putg HO_3.out (x4_1 : Int) (rd l0 x4_1)
                go_wp2_with (first | ((with_reducible refine gate_store (t := 3) (p := 20) rfl ?_); refine store_event (t := 3) (p := 20) (v := ?vo_w11) (w1 := (wr.setCell ⟨go9, (x4_1 : Int).toNat, none⟩ (.int .i64 (rd l0 x4_1)))) ?hg ?ho ?hn ?hr ?_; (case ho => rfl); (case hg => rfl); (case hn => rfl); (case hr => first | (go_simp; done) | (go_simp; rfl)); intro w11 hw; have hg : wr.grownBy w11 (some go9) := (by rw [hw]; exact HP10.2); have hp_ : Kd.R (Kd.int .i64) 3 w11 w.heap.size (fun _ => True) (.slice (some ⟨go9, 0, none⟩) x3_1.length co9) y130 := (by rw [hw, Ny130.out]; exact HP10.1); clear HP10; have n0_ := Aside0.mk (hp_); have n1_ := Aside0.mk ((by rw [hw]; exact below_set (HB.out) GB9.out : Below w.heap.size w w11)); clear HO_3; clear HB; have HO_3 := n0_; have HB := n1_; clear n0_ n1_; clear hg hw hp_))
                go_roundg k1
                case measure => have := HK1.out; omega
                case rel => exact ⟨(y130), (wrap64 (x4_1 + 1)), (by first | rfl | (simp; done) | (simp [*]; done)), H', ⟨by have := HK1.out; omega⟩, ⟨by (with_reducible repeat (first | apply Kd.R_alloc | apply Kd.R_drewN | apply Kd.R_drew)); exact HO_3.out⟩, ⟨by repeat (first | (with_reducible first | exact HB.out | apply below_alloc | apply pw_below_drewN | apply below_drew1) | exact HB.out)⟩⟩
              · rw [if_neg c8] at H
                exact absurd H (by simp)
            · rw [if_neg c7] at H
              exact absurd H (by simp)
          · rw [if_neg c6] at H
            have c6b0 : decide (x4_1 < (l0.length : Int)) = false := decide_eq_false c6
            clear c6
            obtain rfl := Option.some.inj H
            go_wp2
            go_ret
            exact ⟨_, by first | rfl | (simp [errW_none, errW_some] <;> rfl) | (simp [*, errW_none, errW_some] <;> rfl), by (with_reducible repeat (first | apply Kd.R_alloc | apply Kd.R_drewN | apply Kd.R_drew)); exact HO_3.out, by repeat (first | (with_reducible first | exact HB.out | apply below_alloc | apply pw_below_drewN | apply below_drew1) | exact HB.out)⟩
    · rw [if_neg c3] at H
      exact absurd H (by simp)
  · rw [if_neg c2] at H
    exact absurd H (by simp)

theorem toIntS_l0 (l : List Int) (hl : l.length ≤ 1048576) : ∀ (d i : Nat) (m : List Int), i + d = l.length → m.length = l.length → m.take i = l.take i → Ev (fun k => laws_toIntS.l0 k l m i) l := by
  intro d
  induction d with
  | zero =>
    intro i m hi hm ht
    refine Ev.step (fun k => by rw [laws_toIntS.l0]) ?_
    rw [List.take_of_length_le (by omega), List.take_of_length_le (by omega)] at ht
    subst ht
    exact evNeg (by omega) (Ev.now _)
  | succ d ih =>
    intro i m hi hm ht
    have h1 : i < l.length := by omega
    refine Ev.step (fun k => by rw [laws_toIntS.l0]) ?_
    refine evPos (by omega) (evPos (by omega) (evPos (by omega) ?_))
    rw [rd_nat h1, w64 (by omega) (by omega), Int.toNat_natCast]
    refine ih (i + 1) _ (by omega) (by simp [hm]) ?_
    rw [List.take_succ_eq_append_getElem (by simp; omega), List.take_succ_eq_append_getElem h1, List.take_set_of_le (Nat.le_refl _), ht]
    simp
theorem toIntS_f (l : List Int) (hl : l.length ≤ 1048576) : Ev (fun k => laws_toIntS.f k l) l := by
  unfold laws_toIntS.f
  refine evPos (by omega) (evPos (by omega) ?_)
  exact toIntS_l0 l hl l.length 0 _ (by omega) (by simp) (by simp)

/-! ### impl_CutBlocks: function 18 -/
def impl_CutBlocks.f (k : Nat) (l0 : List Int) (a1 : Int) (a2 : Int) : Option ((List (List Int))) := (impl_PlaneOk.f k l0 a1 a2).bind fun t131 => (if t131 = true then (if (Int.tmod a1 8) = 0 then (if (Int.tmod a2 8) = 0 then ((impl_cutBlocks.f l0 a1 a2).bind fun t132 => (some t132)) else (some ([] : List (List Int)))) else (some ([] : List (List Int)))) else (some ([] : List (List Int))))
theorem impl_CutBlocks.mono : ∀ a0 a1 a2 k, LeO (impl_CutBlocks.f k a0 a1 a2) (impl_CutBlocks.f (k + 1) a0 a1 a2) := by
  intro a0 a1 a2 k
  unfold impl_CutBlocks.f
  repeat' first
      | (with_reducible exact impl_PlaneOk.mono _ _ _ _)
      | (with_reducible exact LeO.refl _)
      | (with_reducible exact LeO.none _)
      | (with_reducible refine LeO.ite ?_ ?_)
      | (with_reducible refine LeO.bind ?_ (fun _ => ?_))
      | exact impl_PlaneOk.mono _ _ _ _
      | exact LeO.none _
      | refine LeO.ite ?_ ?_
      | refine LeO.bind ?_ (fun _ => ?_)
set_option maxHeartbeats 8000000 in
set_option maxRecDepth 100000 in
theorem impl_CutBlocks.calls (k : Nat) (A0 : Option Addr) (c0 : Nat) (l0 : List Int) (a1 : Int) (a2 : Int) (r : List (List Int)) (w : World) (hr0 : Kd.C (Kd.int .i64) w A0 l0.length l0) (hc0 : l0.length ≤ c0) (h : impl_CutBlocks.f k l0 a1 a2 = some r) :
    Calls Try.prog 18 #[.slice A0 l0.length c0, .int .i64 a1, .int .i64 a2] w fun e w' => ∃ v0_ : Value, e = .returned (v0_) ∧ Kd.S (Kd.slice 3 (Kd.int .i64)) 41 w' w.heap.size (fun _ => True) v0_ r ∧ Below w.heap.size w w' := by
  have HR0 := Aside0.mk hr0
  have HC0 := Aside0.mk hc0
  clear hr0 hc0
  have HB := Aside0.mk (Below.refl w.heap.size w)
  have H : ((impl_PlaneOk.f k l0 a1 a2).bind fun t131 => (if t131 = true then (if (Int.tmod a1 8) = 0 then (if (Int.tmod a2 8) = 0 then ((impl_cutBlocks.f l0 a1 a2).bind fun t132 => (some t132)) else (some ([] : List (List Int)))) else (some ([] : List (List Int)))) else (some ([] : List (List Int))))) = some r := h
  clear h
  replace H := Option.bind_eq_some_iff.mp H
  obtain ⟨t131, A40, H⟩ := H
  replace H : (if t131 = true then (if (Int.tmod a1 8) = 0 then (if (Int.tmod a2 8) = 0 then ((impl_cutBlocks.f l0 a1 a2).bind fun t132 => (some t132)) else (some ([] : List (List Int)))) else (some ([] : List (List Int)))) else (some ([] : List (List Int)))) = some r := H
  have A4 := Aside0.mk A40
  clear A40
  by_cases c5 : t131 = true
  · subst c5
    have H1 : (if (Int.tmod a1 8) = 0 then (if (Int.tmod a2 8) = 0 then ((impl_cutBlocks.f l0 a1 a2).bind fun t132 => (some t132)) else (some ([] : List (List Int)))) else (some ([] : List (List Int)))) = some r := by rw [if_pos rfl] at H; exact H
    clear H
    have H := H1
    clear H1
    by_cases c6 : (Int.tmod a1 8) = 0
    · rw [if_pos c6] at H
      have c6b0 : ((Int.tmod a1 8) == 0) = true := beq_iff_eq.mpr c6
      have c6b1 : ((Int.tmod a1 8) != 0) = false := bne_eq_false_iff_eq.mpr c6
      clear c6
      by_cases c7 : (Int.tmod a2 8) = 0
      · rw [if_pos c7] at H
        have c7b0 : ((Int.tmod a2 8) == 0) = true := beq_iff_eq.mpr c7
        have c7b1 : ((Int.tmod a2 8) != 0) = false := bne_eq_false_iff_eq.mpr c7
        clear c7
        replace H := Option.bind_eq_some_iff.mp H
        obtain ⟨t132, A80, H⟩ := H
        replace H : (some t132) = some r := H
        have A8 := Aside0.mk A80
        clear A80
        obtain rfl := Option.some.inj H
        go_enter Try.func18, Try.ntmps18
        go_wp2_with (first | ((with_reducible refine gate_callee (f := 38) rfl ?_); refine goesL_ (some 10) rfl rfl Try.func38 (by kernel_rfl) rfl #[.slice A0 l0.length c0, .int .i64 a1, .int .i64 a2] rfl (by (try simp only [List.map_toArray, List.map_cons, List.map_nil]); first | done | rfl | (simp only [List.length_drop, List.length_take]; rfl)) ?_; (with_reducible refine (impl_PlaneOk.calls k _ _ l0 a1 a2 true _ ?side1 ?side2 A4.out).mono ?_); (case side1 => repeat (first | exact HR0.out | (with_reducible refine Kd.C_alloc ?_ _) | (with_reducible refine Kd.C_drewN ?_ _) | (with_reducible refine Kd.C_drew ?_))); (case side2 => exact HC0.out); rintro e w' ⟨rfl, ⟨nd, rfl⟩⟩; refine ⟨_, rfl, ?_⟩) | ((with_reducible refine gate_callee (f := 39) rfl ?_); refine goesL_ (some 25) rfl rfl Try.func39 (by kernel_rfl) rfl #[.slice A0 l0.length c0, .int .i64 a1, .int .i64 a2] rfl (by (try simp only [List.map_toArray, List.map_cons, List.map_nil]); first | done | rfl | (simp only [List.length_drop, List.length_take]; rfl)) ?_; (with_reducible refine (impl_cutBlocks.calls _ _ l0 a1 a2 t132 _ ?side1 ?side2 A8.out).mono ?_); (case side1 => repeat (first | exact HR0.out | (with_reducible refine Kd.C_alloc ?_ _) | (with_reducible refine Kd.C_drewN ?_ _) | (with_reducible refine Kd.C_drew ?_))); (case side2 => exact HC0.out); rintro e w9 ⟨v133, rfl, ho0, hb⟩; refine ⟨_, rfl, ?_⟩; have n0_ := Aside0.mk (Kd.S_lower ho0 (below_size (by repeat (first | (with_reducible first | exact HB.out | apply below_alloc | apply pw_below_drewN | apply below_drew1) | exact HB.out)))); have n1_ := Aside0.mk (below_step (by repeat (first | (with_reducible first | exact HB.out | apply below_alloc | apply pw_below_drewN | apply below_drew1) | exact HB.out)) hb); clear HB; have HO134 := n0_; have HB := n1_; clear n0_ n1_; (try clear hb); (try clear hb2); (try clear hk); (try clear hi); (try clear ho0)))
        go_ret
        exact ⟨_, by first | rfl | (simp [errW_none, errW_some] <;> rfl) | (simp [*, errW_none, errW_some] <;> rfl), by (with_reducible repeat (first | apply Kd.S_alloc | apply Kd.S_drewN | apply Kd.S_drew)); exact HO134.out, by repeat (first | (with_reducible first | exact HB.out | apply below_alloc | apply pw_below_drewN | apply below_drew1) | exact HB.out)⟩
      · rw [if_neg c7] at H
        have c7b0 : ((Int.tmod a2 8) == 0) = false := beq_eq_false_iff_ne.mpr c7
        have c7b1 : ((Int.tmod a2 8) != 0) = true := bne_iff_ne.mpr c7
        obtain rfl := Option.some.inj H
        go_enter Try.func18, Try.ntmps18
        go_wp2_with (first | ((with_reducible refine gate_callee (f := 38) rfl ?_); refine goesL_ (some 10) rfl rfl Try.func38 (by kernel_rfl) rfl #[.slice A0 l0.length c0, .int .i64 a1, .int .i64 a2] rfl (by (try simp only [List.map_toArray, List.map_cons, List.map_nil]); first | done | rfl | (simp only [List.length_drop, List.length_take]; rfl)) ?_; (with_reducible refine (impl_PlaneOk.calls k _ _ l0 a1 a2 true _ ?side1 ?side2 A4.out).mono ?_); (case side1 => repeat (first | exact HR0.out | (with_reducible refine Kd.C_alloc ?_ _) | (with_reducible refine Kd.C_drewN ?_ _) | (with_reducible refine Kd.C_drew ?_))); (case side2 => exact HC0.out); rintro e w' ⟨rfl, ⟨nd, rfl⟩⟩; refine ⟨_, rfl, ?_⟩))
        go_ret
        exact ⟨_, by first | rfl | (simp [errW_none, errW_some] <;> rfl) | (simp [*, errW_none, errW_some] <;> rfl), by first | exact Kd.S_nil _ _ _ _ _ | exact Kd.N_nil _ _ _ _ _ | exact Kd.V_nil _ _ _ _ _ | exact Kd.Q_nil _ _ _ _ _ | exact Kd.R_nil _ _ _ _ _, by repeat (first | (with_reducible first | exact HB.out | apply below_alloc | apply pw_below_drewN | apply below_drew1) | exact HB.out)⟩
    · rw [if_neg c6] at H
      have c6b0 : ((Int.tmod a1 8) == 0) = false := beq_eq_false_iff_ne.mpr c6
      have c6b1 : ((Int.tmod a1 8) != 0) = true := bne_iff_ne.mpr c6
      obtain rfl := Option.some.inj H
      go_enter Try.func18, Try.ntmps18
      go_wp2_with (first | ((with_reducible refine gate_callee (f := 38) rfl ?_); refine goesL_ (some 10) rfl rfl Try.func38 (by kernel_rfl) rfl #[.slice A0 l0.length c0, .int .i64 a1, .int .i64 a2] rfl (by (try simp only [List.map_toArray, List.map_cons, List.map_nil]); first | done | rfl | (simp only [List.length_drop, List.length_take]; rfl)) ?_; (with_reducible refine (impl_PlaneOk.calls k _ _ l0 a1 a2 true _ ?side1 ?side2 A4.out).mono ?_); (case side1 => repeat (first | exact HR0.out | (with_reducible refine Kd.C_alloc ?_ _) | (with_reducible refine Kd.C_drewN ?_ _) | (with_reducible refine Kd.C_drew ?_))); (case side2 => exact HC0.out); rintro e w' ⟨rfl, ⟨nd, rfl⟩⟩; refine ⟨_, rfl, ?_⟩))
      go_ret
      exact ⟨_, by first | rfl | (simp [errW_none, errW_some] <;> rfl) | (simp [*, errW_none, errW_some] <;> rfl), by first | exact Kd.S_nil _ _ _ _ _ | exact Kd.N_nil _ _ _ _ _ | exact Kd.V_nil _ _ _ _ _ | exact Kd.Q_nil _ _ _ _ _ | exact Kd.R_nil _ _ _ _ _, by repeat (first | (with_reducible first | exact HB.out | apply below_alloc | apply pw_below_drewN | apply below_drew1) | exact HB.out)⟩
  · replace c5 := Bool.eq_false_iff.mpr c5
    subst c5
    have H1 : (some ([] : List (List Int))) = some r := by rw [if_neg (show ¬ (false = true) by decide)] at H; exact H
    clear H
    have H := H1
    clear H1
    obtain rfl := Option.some.inj H
    go_enter Try.func18, Try.ntmps18
    go_wp2_with (first | ((with_reducible refine gate_callee (f := 38) rfl ?_); refine goesL_ (some 10) rfl rfl Try.func38 (by kernel_rfl) rfl #[.slice A0 l0.length c0, .int .i64 a1, .int .i64 a2] rfl (by (try simp only [List.map_toArray, List.map_cons, List.map_nil]); first | done | rfl | (simp only [List.length_drop, List.length_take]; rfl)) ?_; (with_reducible refine (impl_PlaneOk.calls k _ _ l0 a1 a2 false _ ?side1 ?side2 A4.out).mono ?_); (case side1 => repeat (first | exact HR0.out | (with_reducible refine Kd.C_alloc ?_ _) | (with_reducible refine Kd.C_drewN ?_ _) | (with_reducible refine Kd.C_drew ?_))); (case side2 => exact HC0.out); rintro e w' ⟨rfl, ⟨nd, rfl⟩⟩; refine ⟨_, rfl, ?_⟩))
    go_ret
    exact ⟨_, by first | rfl | (simp [errW_none, errW_some] <;> rfl) | (simp [*, errW_none, errW_some] <;> rfl), by first | exact Kd.S_nil _ _ _ _ _ | exact Kd.N_nil _ _ _ _ _ | exact Kd.V_nil _ _ _ _ _ | exact Kd.Q_nil _ _ _ _ _ | exact Kd.R_nil _ _ _ _ _, by repeat (first | (with_reducible first | exact HB.out | apply below_alloc | apply pw_below_drewN | apply below_drew1) | exact HB.out)⟩

theorem iCutBlocks_f (l : List Int) (w h : Int) (hl : l.length ≤ 1048576) : Ev (fun k => impl_CutBlocks.f k l w h) (cutI l w h) := by
  have no : ¬ cutG l w h → cutI l w h = [] := fun hn => by unfold cutI; rw [if_neg hn]
  unfold impl_CutBlocks.f
  refine evBind (iPlaneOk_f l w h (by unfold maxLen; omega)) (evIf (fun h1 => evIf (fun h2 => evIf (fun h3 => ?_) (fun h3 => ?_)) (fun h2 => ?_)) (fun h1 => ?_))
  · have hg : cutG l w h := ⟨h1, h2, h3⟩
    unfold impl_cutBlocks.f cutI
    rw [if_pos hg, if_pos hg]
    exact Ev.now _
  · rw [no (fun hg => h3 hg.2.2)]; exact Ev.now _
  · rw [no (fun hg => h2 hg.2.1)]; exact Ev.now _
  · rw [no (fun hg => h1 hg.1)]; exact Ev.now _

end Go.Proofs.Ytmgjglegooehbaa.CB
