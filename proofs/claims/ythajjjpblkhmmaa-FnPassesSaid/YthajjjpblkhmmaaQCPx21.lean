/- Functions that a law of this seat reaches: written by a program of this session (wip/xprint.py), and by hand. -/
import Derived.Test.YthajjjpblkhmmaaQMac
import Derived.Test.YthajjjpblkhmmaaQCPx0
import Derived.Test.YthajjjpblkhmmaaQCPx1
import Derived.Test.YthajjjpblkhmmaaQCPx2
import Derived.Test.YthajjjpblkhmmaaQCPx3
import Derived.Test.YthajjjpblkhmmaaQCPx6
import Derived.Test.YthajjjpblkhmmaaQCPx7
import Derived.Test.YthajjjpblkhmmaaQCPx8
import Derived.Test.YthajjjpblkhmmaaQCPx12
import Derived.Test.YthajjjpblkhmmaaQCPx14
import Derived.Test.YthajjjpblkhmmaaQCPx17
import Derived.Test.YthajjjpblkhmmaaQCPx18
import Derived.Test.YthajjjpblkhmmaaQCPx20
namespace Go.Proofs.Ythajjjpblkhmmaa.CP
open Go.RowKit Go.Proofs.Ythajjjpblkhmmaa.B Go.Proofs.YthajjjpblkhmmaaW.PrintWords Go.Proofs.YthajjjpblkhmmaaW.PrintLast Go.Proofs.YthajjjpblkhmmaaW.PrintMore
attribute [local go_sem] max2_int min2_int max_two min_two max_three min_three max_four min_four   -- for this text's walks alone
set_option linter.unusedVariables false
set_option linter.unusedSimpArgs false

/-! ### laws_FnPasses: function 7 -/
mutual
def laws_FnPasses.j0 : Nat → List Int → List Int → Bool → Option (Bool)
  | 0, _, _, _ => none
  | k + 1, x0, x1, x26 => if x26 = true then (some true) else ((spec_DrawFirstOf.f k x0).bind fun bt610 => (laws_FnPasses.l0 k x1 bt610.1 ((bt610.1.length : Int) == 64) 0))
def laws_FnPasses.l0 : Nat → List Int → List Int → Bool → Int → Option (Bool)
  | 0, _, _, _, _ => none
  | k + 1, x1, x5, x7, x8 => if x8 < (x5.length : Int) then (if x7 = true then (if 0 ≤ x8 then (if (rd x5 x8) ≥ (-16383) then (laws_FnPasses.l0 k x1 x5 (decide ((rd x5 x8) ≤ 16383)) (wrap64 (x8 + 1))) else (laws_FnPasses.l0 k x1 x5 false (wrap64 (x8 + 1)))) else (none)) else (laws_FnPasses.l0 k x1 x5 false (wrap64 (x8 + 1)))) else (if x7 = true then ((some (([(⟨0, 1, 1, 0⟩ : S42)] : List (S42)) : List (S42))).bind fun y623 => ((laws_pick.f k x1 0 3).bind fun t627 => ((spec_ScriptFor.f k 8 8 8 0 y623 t627).bind fun t628 => (if 64 ≤ 35184372088832 then (laws_FnPasses.l1 k x5 t628 (List.replicate 64 0) 0 8 8 8 0 y623) else (none))))) else (some true))
def laws_FnPasses.l1 : Nat → List Int → List (S28) → List Int → Int → Int → Int → Int → Int → List (S42) → Option (Bool)
  | 0, _, _, _, _, _, _, _, _, _ => none
  | k + 1, x5, x10, x11, x12, x627000, x627001, x627002, x627003, x627004 => if x12 < (x10.length : Int) then (if 0 ≤ x12 then (if ((rd_T28 x10 x12).f3) = 0 then ((impl_FirstOf.f k x5 ((rd_T28 x10 x12).f0) ((rd_T28 x10 x12).f1) ((rd_T28 x10 x12).f2) ((rd_T28 x10 x12).f3) ((rd_T28 x10 x12).f4)).bind fun t637 => ((spec_FirstOf.f k x5 ((rd_T28 x10 x12).f0) ((rd_T28 x10 x12).f1) ((rd_T28 x10 x12).f2) ((rd_T28 x10 x12).f3) ((rd_T28 x10 x12).f4)).bind fun t640 => ((laws_sameInts.f k t637 t640).bind fun t643 => (if t643 = true then ((impl_PutFirst.f k x11 ((rd_T28 x10 x12).f0) ((rd_T28 x10 x12).f1) ((rd_T28 x10 x12).f2) ((rd_T28 x10 x12).f3) ((rd_T28 x10 x12).f4) t637).bind fun t644 => (laws_FnPasses.j3 k x5 x10 t644 x12 x627000 x627001 x627002 x627003 x627004)) else (some false))))) else ((impl_RefineOf.f k x5 ((rd_T28 x10 x12).f0) ((rd_T28 x10 x12).f1) ((rd_T28 x10 x12).f2) ((rd_T28 x10 x12).f3) ((rd_T28 x10 x12).f4)).bind fun t647 => ((spec_RefineOf.f k x5 ((rd_T28 x10 x12).f0) ((rd_T28 x10 x12).f1) ((rd_T28 x10 x12).f2) ((rd_T28 x10 x12).f3) ((rd_T28 x10 x12).f4)).bind fun t650 => ((laws_sameInts.f k t647 t650).bind fun t653 => (if t653 = true then ((impl_PutRefine.f k x11 ((rd_T28 x10 x12).f0) ((rd_T28 x10 x12).f1) ((rd_T28 x10 x12).f2) ((rd_T28 x10 x12).f3) ((rd_T28 x10 x12).f4) t647).bind fun t654 => (laws_FnPasses.j3 k x5 x10 t654 x12 x627000 x627001 x627002 x627003 x627004)) else (some false)))))) else (none)) else ((laws_sameInts.f k x11 x5).bind fun t634 => (some t634))
def laws_FnPasses.j3 : Nat → List Int → List (S28) → List Int → Int → Int → Int → Int → Int → List (S42) → Option (Bool)
  | 0, _, _, _, _, _, _, _, _, _ => none
  | k + 1, x5, x10, x11, x12, x627000, x627001, x627002, x627003, x627004 => if 0 ≤ (wrap64 (x12 + 1)) then (if (wrap64 (x12 + 1)) ≤ (x10.length : Int) then ((spec_LeftOf.f k x627000 x627001 x627002 x627003 x627004 (x10.take ((wrap64 (x12 + 1)) : Int).toNat)).bind fun t661 => ((spec_ToZig.f k x11).bind fun t664 => ((spec_ToZig.f k x5).bind fun t667 => (laws_FnPasses.l2 k x5 x10 x11 x12 t661 t664 t667 0 x627000 x627001 x627002 x627003 x627004)))) else (none)) else (none)
def laws_FnPasses.l2 : Nat → List Int → List (S28) → List Int → Int → List (List Int) → List Int → List Int → Int → Int → Int → Int → Int → List (S42) → Option (Bool)
  | 0, _, _, _, _, _, _, _, _, _, _, _, _, _ => none
  | k + 1, x5, x10, x11, x12, x16, x17, x18, x19, x627000, x627001, x627002, x627003, x627004 => if x19 < 64 then (laws_FnPasses.j5 k x5 x10 x11 x12 x16 x17 x18 x19 ((x17.length : Int) == 64) x627000 x627001 x627002 x627003 x627004) else (laws_FnPasses.j5 k x5 x10 x11 x12 x16 x17 x18 x19 false x627000 x627001 x627002 x627003 x627004)
def laws_FnPasses.j5 : Nat → List Int → List (S28) → List Int → Int → List (List Int) → List Int → List Int → Int → Bool → Int → Int → Int → Int → List (S42) → Option (Bool)
  | 0, _, _, _, _, _, _, _, _, _, _, _, _, _, _ => none
  | k + 1, x5, x10, x11, x12, x16, x17, x18, x19, x121, x627000, x627001, x627002, x627003, x627004 => if x121 = true then (if 0 < (x16.length : Int) then (if 0 ≤ x19 then (if x19 < ((rd_L3 x16 0).length : Int) then (if (rd (rd_L3 x16 0) x19) ≥ 0 then (if x19 < (x18.length : Int) then ((laws_abs.f (rd x18 x19)).bind fun t673 => (if 0 ≤ (rd (rd_L3 x16 0) x19) then (if (rd x18 x19) < 0 then (if x19 < (x17.length : Int) then (if (rd x17 x19) = (wrap64 (-(shl .i64 (shr .i64 t673 (rd (rd_L3 x16 0) x19)) (rd (rd_L3 x16 0) x19)))) then (laws_FnPasses.l2 k x5 x10 x11 x12 x16 x17 x18 (wrap64 (x19 + 1)) x627000 x627001 x627002 x627003 x627004) else (some false)) else (none)) else (if x19 < (x17.length : Int) then (if (rd x17 x19) = (shl .i64 (shr .i64 t673 (rd (rd_L3 x16 0) x19)) (rd (rd_L3 x16 0) x19)) then (laws_FnPasses.l2 k x5 x10 x11 x12 x16 x17 x18 (wrap64 (x19 + 1)) x627000 x627001 x627002 x627003 x627004) else (some false)) else (none))) else (none))) else (none)) else (if x19 < (x17.length : Int) then (if (rd x17 x19) = 0 then (laws_FnPasses.l2 k x5 x10 x11 x12 x16 x17 x18 (wrap64 (x19 + 1)) x627000 x627001 x627002 x627003 x627004) else (some false)) else (none))) else (none)) else (none)) else (none)) else (laws_FnPasses.l1 k x5 x10 x11 (wrap64 (x12 + 1)) x627000 x627001 x627002 x627003 x627004)
end
def laws_FnPasses.f (k : Nat) (l0 : List Int) (l1 : List Int) : Option (Bool) := (laws_big.f l0).bind fun t608 => (if t608 = true then (laws_FnPasses.j0 k l0 l1 true) else ((laws_big.f l1).bind fun t609 => (laws_FnPasses.j0 k l0 l1 t609)))
def laws_FnPasses.T35 : Bool × List (List Nat × List Nat) := (true, [([], []), ([], []), ([0, 1], [0, 1]), ([2], [2]), ([3], [3]), ([], []), ([5], [5]), ([6], [6]), ([], []), ([7, 8], [7, 8]), ([9], [9]), ([4, 10], [4, 10]), ([], []), ([12], [12]), ([13], [13]), ([], []), ([14, 15], [14, 15]), ([16], [16]), ([11, 17], [11, 17]), ([18, 4, 0, 1, 2, 3, 4, 5, 6, 7, 8, 9, 10, 11, 12, 13, 14, 15, 16, 17, 18], [18])])
def laws_FnPasses.B35 : List Nat := [0, 0, 3, 7, 15, 0, 32, 96, 0, 480, 992, 2047, 0, 4096, 12288, 0, 61440, 126976, 262143, 524287]
theorem laws_FnPasses.tab35 : rtab .any (opsOf Try.f7 35) = laws_FnPasses.T35 := by kernel_rfl
theorem laws_FnPasses.bits35 : waitsOk laws_FnPasses.T35.2 laws_FnPasses.B35 = true := by kernel_rfl
set_option maxHeartbeats 8000000 in
set_option maxRecDepth 100000 in
theorem laws_FnPasses.calls (k : Nat) (A0 : Option Addr) (c0 : Nat) (l0 : List Int) (A1 : Option Addr) (c1 : Nat) (l1 : List Int) (r : Bool) (w : World) (hr0 : Kd.C (Kd.int .u8) w A0 l0.length l0) (hc0 : l0.length ≤ c0) (hr1 : Kd.C (Kd.int .u8) w A1 l1.length l1) (hc1 : l1.length ≤ c1) (HTRUE_ : Aside0 (r = true)) (h : laws_FnPasses.f k l0 l1 = some r) :
  Calls Try.prog 7 #[.slice A0 l0.length c0, .slice A1 l1.length c1] w fun e w' => e = .returned (.bool r) ∧ Below w.heap.size w w' := by
 have hu28 := Try.underlying28
 have hu42 := Try.underlying42
 have hu45 := Try.underlying45
 have HR0 := aM hr0
 have HC0 := aM hc0
 clear hr0 hc0
 have HR1 := aM hr1
 have HC1 := aM hc1
 clear hr1 hc1
 have HB := aM (Below.refl w.heap.size w)
 have H : ((laws_big.f l0).bind fun t608 => (if t608 = true then (laws_FnPasses.j0 k l0 l1 true) else ((laws_big.f l1).bind fun t609 => (laws_FnPasses.j0 k l0 l1 t609)))) = some r := h
 clear h
 have HC3 := aM H
 clear H
 go_enter Try.func7, Try.ntmps7
 go_upto_region 1 with (fail)
 go_cut [26] (fun v26 wc => ∃ (kq : Nat) (x26_2 : Bool), v26 = .bool x26_2 ∧ Aside0 (laws_FnPasses.j0 kq l0 l1 x26_2 = some r) ∧ Aside0 (kq ≤ k) ∧ Aside0 (Below w.heap.size w wc))
 case first =>
  have H := HC3.out
  clear HC3
  obtain ⟨t608, A4, H⟩ := oH H
  by_cases c5 : t608 = true
  ·subst c5
   replace H := iT H
   have H' := aM H
   clear H
   go_wp2_with (first | ((with_reducible refine gate_callee (f := 31) rfl ?_); refine zGl (some 22) Try.func31 #[.slice A0 l0.length c0] ?_; (with_reducible refine (laws_big.calls _ _ l0 true _ ?side1 ?side2 A4.out).mono ?_); (case side1 => exact zC (Kd.C_below HR0.out HB.out)); (case side2 => exact HC0.out); rintro e w' ⟨rfl, ⟨nd, rfl⟩⟩; refine ⟨_, rfl, ?_⟩))
   go_meet
   case rel => exact ⟨_, (true), zS, H', zO, ⟨zH⟩⟩
  ·replace c5 := Bool.eq_false_iff.mpr c5
   subst c5
   replace H := iF H
   obtain ⟨t609, A6, H⟩ := oH H
   have H' := aM H
   clear H
   go_wp2_with (first | ((with_reducible refine gate_callee (f := 31) rfl ?_); refine zGl (some 22) Try.func31 #[.slice A0 l0.length c0] ?_; (with_reducible refine (laws_big.calls _ _ l0 false _ ?side1 ?side2 A4.out).mono ?_); (case side1 => exact zC (Kd.C_below HR0.out HB.out)); (case side2 => exact HC0.out); rintro e w' ⟨rfl, ⟨nd, rfl⟩⟩; refine ⟨_, rfl, ?_⟩) | (go_at_call 31; (with_reducible refine (laws_big.calls _ _ l1 t609 _ ?side1 ?side2 A6.out).mono ?_); (case side1 => exact zC (Kd.C_below HR1.out zH)); (case side2 => exact HC1.out); rintro e w' ⟨rfl, ⟨nd, rfl⟩⟩))
   go_meet
   case rel => exact ⟨_, (t609), zS, H', zO, ⟨zH⟩⟩
 case rest =>
  clear HC3
  try clear c1
  obtain ⟨kq, x26_2, rfl, HA, HJ2, HB⟩ := hcut
  cases kq with
  | zero => exact absurd HA.out (by simp [laws_FnPasses.j0])
  | succ kj2 =>
   have H := HA.out
   clear HA
   simp only [laws_FnPasses.j0] at H
   by_cases c7 : x26_2 = true
   ·subst c7
    replace H := iT H
    obtain rfl := Option.some.inj H
    go_wp2
    go_ret
    exact ⟨zR, zH⟩
   ·replace c7 := Bool.eq_false_iff.mpr c7
    subst c7
    replace H := iF H
    replace H := oB H
    obtain ⟨⟨t610, t613, t616, t617, t618, t619⟩, A80, H⟩ := H
    replace H : (laws_FnPasses.l0 kj2 l1 t610 ((t610.length : Int) == 64) 0) = some r := H
    have A8 := aM A80
    clear A80
    have H' := aM H
    clear H
    go_wp2_with (first | ((with_reducible refine gate_callee (f := 32) rfl ?_); refine zGl (some 29) Try.func32 #[.slice A0 l0.length c0] ?_; (with_reducible refine (spec_DrawFirstOf.calls kj2 _ _ l0 t610 t613 t616 t617 t618 t619 _ ?side1 ?side2 A8.out).mono ?_); (case side1 => exact zC (Kd.C_below HR0.out HB.out)); (case side2 => exact HC0.out); rintro e w9 ⟨v611, v614, rfl, ho0, ho1, hb⟩; refine ⟨_, rfl, ?_⟩; have HO612 := aM (Kd.R_lower ho0 (below_size zH)); have HO615 := aM (Kd.R_lower ho1 (below_size zH)); replace HB := cH HB hb; (try clear hb); (try clear ho0); (try clear ho1)) | ((with_reducible refine gate_dst (N := 6) rfl ?_); (try (refine gate_guard (by rfl) ?_; dsimp only)); refine box_event ?hg (N := 6) ?hd (cs := #[.slice none 0 0, .int .i64 0, .int .i64 0, .int .i64 0, .int .i64 0]) (t := 28) ?hr ?_; (case hd => rfl); (case hg => rfl); (case hr => first | (go_simp; done) | (go_simp; rfl)); intro gb620 hg w10 hbox hb; replace HO612 := aM (Kd.R_below (by (with_reducible repeat (first | apply Kd.R_alloc | apply Kd.R_drewN | apply Kd.R_drew)); exact HO612.out) hb); replace HO615 := aM (Kd.R_below (by (with_reducible repeat (first | apply Kd.R_alloc | apply Kd.R_drewN | apply Kd.R_drew)); exact HO615.out) hb); have BK620 := aM hbox; have GW620 := aM (zG hg : w.heap.size ≤ gb620); have GE620 := aM (zG hg : w.heap.size ≤ gb620); replace HB := cH HB hb; clear hb hbox hg; obtain ⟨Ao11, co11, eo11⟩ := Kd.R_slice HO615.out; subst eo11; obtain ⟨hcz12_0, hcz12_1, hcz12_2, hcz12_3, hcz12_4⟩ := kk5 BK620; obtain ⟨hfz12_0, hfz12_1, hfz12_2, hfz12_3, hfz12_4⟩ := kg5 BK620; obtain ⟨Ao13, co13, eo13⟩ := Kd.R_slice HO612.out; subst eo13))
    go_loopg [7, 8] kj2 (fun kq v7 v8 w' => ∃ (x7_2 : Bool) (x8_2 : Int), v7 = .bool x7_2 ∧ v8 = .int .i64 x8_2 ∧ Aside0 (laws_FnPasses.l0 kq l1 t610 x7_2 x8_2 = some r) ∧ Aside0 (kq ≤ kj2) ∧ Aside0 (Kd.R (Kd.int .i64) 3 w' w.heap.size (fun k_ => some k_ ≠ ((.slice Ao11 t613.length co11) : Value).ownBlock) (.slice Ao13 t610.length co13) t610) ∧ Aside0 (Kd.R (Kd.int .i64) 3 w' w.heap.size (fun k_ => some k_ ≠ ((.slice Ao13 t610.length co13) : Value).ownBlock) (.slice Ao11 t613.length co11) t613) ∧ Aside0 (w'.heap[gb620]? = some (.cells #[(.slice Ao11 t613.length co11), .int .i64 t616, .int .i64 t617, .int .i64 t618, .int .i64 t619] 28 (0, 0))) ∧ Aside0 (Below w.heap.size w w'))
    case atStart => exact ⟨(((t610.length : Int) == 64)), (0), zS, zS, H', ⟨Nat.le_refl _⟩, ⟨by (with_reducible repeat (first | apply Kd.R_alloc | apply Kd.R_drewN | apply Kd.R_drew)); exact Kd.R_mono (Kd.R_far (p := ⟨gb620, 4, none⟩) (Kd.R_far (p := ⟨gb620, 3, none⟩) (Kd.R_far (p := ⟨gb620, 2, none⟩) (Kd.R_far (p := ⟨gb620, 1, none⟩) (Kd.R_far (p := ⟨gb620, 0, none⟩) (Kd.R_types HO612.out BK620.out (by decide)) (fun _ hk => hk.2) (.slice Ao11 t613.length co11)) (fun _ hk => hk.2) (.int .i64 t616)) (fun _ hk => hk.2) (.int .i64 t617)) (fun _ hk => hk.2) (.int .i64 t618)) (fun _ hk => hk.2) (.int .i64 t619)) (fun _ hk => hk.1)⟩, ⟨by (with_reducible repeat (first | apply Kd.R_alloc | apply Kd.R_drewN | apply Kd.R_drew)); exact Kd.R_mono (Kd.R_far (p := ⟨gb620, 4, none⟩) (Kd.R_far (p := ⟨gb620, 3, none⟩) (Kd.R_far (p := ⟨gb620, 2, none⟩) (Kd.R_far (p := ⟨gb620, 1, none⟩) (Kd.R_far (p := ⟨gb620, 0, none⟩) (Kd.R_types HO615.out BK620.out (by decide)) (fun _ hk => hk.2) (.slice Ao11 t613.length co11)) (fun _ hk => hk.2) (.int .i64 t616)) (fun _ hk => hk.2) (.int .i64 t617)) (fun _ hk => hk.2) (.int .i64 t618)) (fun _ hk => hk.2) (.int .i64 t619)) (fun _ hk => hk.1)⟩, ⟨by (with_reducible repeat (first | apply kN | apply kD | apply kA)); refine blk_put (cs := #[.slice Ao11 t613.length co11, .int .i64 t616, .int .i64 t617, .int .i64 t618, .int .i64 0]) ?_ 4 _ rfl; (with_reducible repeat (first | apply kN | apply kD | apply kA)); refine blk_put (cs := #[.slice Ao11 t613.length co11, .int .i64 t616, .int .i64 t617, .int .i64 0, .int .i64 0]) ?_ 3 _ rfl; (with_reducible repeat (first | apply kN | apply kD | apply kA)); refine blk_put (cs := #[.slice Ao11 t613.length co11, .int .i64 t616, .int .i64 0, .int .i64 0, .int .i64 0]) ?_ 2 _ rfl; (with_reducible repeat (first | apply kN | apply kD | apply kA)); refine blk_put (cs := #[.slice Ao11 t613.length co11, .int .i64 0, .int .i64 0, .int .i64 0, .int .i64 0]) ?_ 1 _ rfl; (with_reducible repeat (first | apply kN | apply kD | apply kA)); refine blk_put (cs := #[.slice none 0 0, .int .i64 0, .int .i64 0, .int .i64 0, .int .i64 0]) ?_ 0 _ rfl; (with_reducible repeat (first | apply kN | apply kD | apply kA)); exact BK620.out⟩, ⟨zH⟩⟩
    case round =>
     clear H'
     (try clear c7); (try clear hcz12_0); (try clear hcz12_1); (try clear hcz12_2); (try clear hcz12_3); (try clear hcz12_4); (try clear hfz12_0); (try clear hfz12_1); (try clear hfz12_2); (try clear hfz12_3); (try clear hfz12_4)
     obtain ⟨x7_2, x8_2, rfl, rfl, HA, HK2, HO_5, HO_621000, BK620, HB⟩ := hrel
     cases gk with
     | zero => exact absurd HA.out (by simp [laws_FnPasses.l0])
     | succ k2 =>
      have H := HA.out
      clear HA
      simp only [laws_FnPasses.l0] at H
      by_cases c14 : x8_2 < (t610.length : Int)
      ·rw [if_pos c14] at H
       have c14b0 : decide (x8_2 < (t610.length : Int)) = true := decide_eq_true c14
       clear c14
       by_cases c15 : x7_2 = true
       ·subst c15
        replace H := iT H
        by_cases c16 : 0 ≤ x8_2
        ·rw [if_pos c16] at H
         have c16b0 : decide (0 ≤ x8_2) = true := decide_eq_true c16
         clear c16
         by_cases c17 : (rd t610 x8_2) ≥ (-16383)
         ·rw [if_pos c17] at H
          have c17b0 : decide ((-16383) ≤ (rd t610 x8_2)) = true := decide_eq_true c17
          clear c17
          have H' := aM H
          clear H
          have p621 : 0 ≤ (x8_2 : Int) := zA
          have q621 : x8_2 < (t610.length : Int) := zA
          obtain ⟨ad621, e621, hx621_0⟩ := Kd.at_int (Kd.R_reads' HO_5.out).2.2 x8_2 p621 q621
          cases e621
          replace p621 := eq_true p621
          replace q621 := eq_true q621
          have p622 : 0 ≤ (x8_2 : Int) := zA
          have q622 : x8_2 < (t610.length : Int) := zA
          obtain ⟨ad622, e622, hx622_0⟩ := Kd.at_int (Kd.R_reads' HO_5.out).2.2 x8_2 p622 q622
          obtain rfl : ad621 = ad622 := (by injection e622)
          replace p622 := eq_true p622
          replace q622 := eq_true q622
          go_wp2
          go_roundg k2
          case measure => have := HJ2.out; have := HK2.out; omega
          case rel => exact ⟨(decide ((rd t610 x8_2) ≤ 16383)), (wrap64 (x8_2 + 1)), zS, zS, H', ⟨by have := HJ2.out; have := HK2.out; omega⟩, ⟨by (with_reducible repeat (first | apply Kd.R_alloc | apply Kd.R_drewN | apply Kd.R_drew)); exact HO_5.out⟩, ⟨by (with_reducible repeat (first | apply Kd.R_alloc | apply Kd.R_drewN | apply Kd.R_drew)); exact HO_621000.out⟩, ⟨zK BK620⟩, ⟨zH⟩⟩
         ·rw [if_neg c17] at H
          have c17b0 : decide ((-16383) ≤ (rd t610 x8_2)) = false := decide_eq_false c17
          clear c17
          have H' := aM H
          clear H
          have p621 : 0 ≤ (x8_2 : Int) := zA
          have q621 : x8_2 < (t610.length : Int) := zA
          obtain ⟨ad621, e621, hx621_0⟩ := Kd.at_int (Kd.R_reads' HO_5.out).2.2 x8_2 p621 q621
          cases e621
          replace p621 := eq_true p621
          replace q621 := eq_true q621
          go_wp2
          go_roundg k2
          case measure => have := HJ2.out; have := HK2.out; omega
          case rel => exact ⟨(false), (wrap64 (x8_2 + 1)), zS, zS, H', ⟨by have := HJ2.out; have := HK2.out; omega⟩, ⟨by (with_reducible repeat (first | apply Kd.R_alloc | apply Kd.R_drewN | apply Kd.R_drew)); exact HO_5.out⟩, ⟨by (with_reducible repeat (first | apply Kd.R_alloc | apply Kd.R_drewN | apply Kd.R_drew)); exact HO_621000.out⟩, ⟨zK BK620⟩, ⟨zH⟩⟩
        ·rw [if_neg c16] at H
         exact absurd H (by simp)
       ·replace c15 := Bool.eq_false_iff.mpr c15
        subst c15
        replace H := iF H
        have H' := aM H
        clear H
        go_wp2
        go_roundg k2
        case measure => have := HJ2.out; have := HK2.out; omega
        case rel => exact ⟨(false), (wrap64 (x8_2 + 1)), zS, zS, H', ⟨by have := HJ2.out; have := HK2.out; omega⟩, ⟨by (with_reducible repeat (first | apply Kd.R_alloc | apply Kd.R_drewN | apply Kd.R_drew)); exact HO_5.out⟩, ⟨by (with_reducible repeat (first | apply Kd.R_alloc | apply Kd.R_drewN | apply Kd.R_drew)); exact HO_621000.out⟩, ⟨zK BK620⟩, ⟨zH⟩⟩
      ·rw [if_neg c14] at H
       have c14b0 : decide (x8_2 < (t610.length : Int)) = false := decide_eq_false c14
       clear c14
       by_cases c18 : x7_2 = true
       ·subst c18
        replace H := iT H
        obtain ⟨y623, hy623⟩ : ∃ y_ : List (S42), y_ = (([(⟨0, 1, 1, 0⟩ : S42)] : List (S42))) := ⟨_, rfl⟩
        replace H : ((laws_pick.f k2 l1 0 3).bind fun t627 => ((spec_ScriptFor.f k2 8 8 8 0 y623 t627).bind fun t628 => (if 64 ≤ 35184372088832 then (laws_FnPasses.l1 k2 t610 t628 (List.replicate 64 0) 0 8 8 8 0 y623) else (none)))) = some r := by first | (rw [hy623]; with_reducible exact H) | (have H2_ := (Option.bind_some _ _).symm.trans H; rw [hy623]; with_reducible exact H2_) | (have H2_ := (Option.bind_some _ _).symm.trans H; with_reducible exact H2_) | with_reducible exact H | (rw [hy623]; exact H) | exact H
        have Ny623 := aM hy623
        clear hy623
        obtain ⟨t627, A19, H⟩ := oH H
        obtain ⟨t628, A20, H⟩ := oH H
        by_cases c21 : 64 ≤ 35184372088832
        ·rw [if_pos c21] at H
         have c21b0 := eq_true c21
         have c21b1 : decide (64 ≤ 35184372088832) = true := decide_eq_true c21
         clear c21
         obtain ⟨y631, hy631⟩ : ∃ y_ : List Int, y_ = (List.replicate 64 0) := ⟨_, rfl⟩
         replace H : (laws_FnPasses.l1 k2 t610 t628 y631 0 8 8 8 0 y623) = some r := by first | (rw [hy631]; with_reducible exact H) | (have H2_ := (Option.bind_some _ _).symm.trans H; rw [hy631]; with_reducible exact H2_) | (have H2_ := (Option.bind_some _ _).symm.trans H; with_reducible exact H2_) | with_reducible exact H | (rw [hy631]; exact H) | exact H
         have Ny631 := aM hy631
         clear hy631
         have H' := aM H
         clear H
         try go_wp2_with (first | ((with_reducible refine gate_dst (N := 59) rfl ?_); (try (refine gate_guard (by rfl) ?_; dsimp only)); refine Kd.R_lit k42 _ 42 ?hg (N := 59) ?hd (xs := ([(⟨0, 1, 1, 0⟩ : S42)] : List (S42))) (inner := [.int .i64 0, .int .i64 1, .int .i64 1, .int .i64 0]) (ok := fun _ => True) (okp := fun _ => True) ?hr ?hp (fun _ hk => hk) trivial (Below.refl _ _) (Nat.le_refl _) (by simp) ?_; (case hd => rfl); (case hg => rfl); (case hr => first | (go_simp; done) | (go_simp; rfl)); (case hp => exact (Reps.c4 (show Kd.M k42 _ _ _ (⟨0, 1, 1, 0⟩ : S42) [.int .i64 0, .int .i64 1, .int .i64 1, .int .i64 0] from (k42_mkM _ _ _ (⟨0, 1, 1, 0⟩ : S42) )) (Reps.none _ _))); intro v624 w22 ho23 hb hg_ hnew_; clear hg_ hnew_; (first | rw [← Ny623.out] at ho23 | (simp only [Int.reduceToNat] at ho23; rw [← Ny623.out] at ho23)); replace HO_5 := aM (Kd.R_below (by (with_reducible repeat (first | apply Kd.R_alloc | apply Kd.R_drewN | apply Kd.R_drew)); exact HO_5.out) hb); replace HO_621000 := aM (Kd.R_below (by (with_reducible repeat (first | apply Kd.R_alloc | apply Kd.R_drewN | apply Kd.R_drew)); exact HO_621000.out) hb); have HO625 := aM (Kd.R_lower ho23 (below_size zH)); replace BK620 := cB BK620 hb; replace HB := cH HB hb; clear hb ho23; obtain ⟨Ao24, co24, eo24⟩ := Kd.R_slice HO625.out; subst eo24) | ((with_reducible refine gate_dst (N := 9) rfl ?_); (try (refine gate_guard (by rfl) ?_; dsimp only)); refine box_event ?hg (N := 9) ?hd (cs := #[.int .i64 0, .int .i64 0, .int .i64 0, .int .i64 0, .slice none 0 0]) (t := 45) ?hr ?_; (case hd => rfl); (case hg => rfl); (case hr => first | (go_simp; done) | (go_simp; rfl)); intro gb626 hg w25 hbox hb; replace HO_5 := aM (Kd.R_below (by (with_reducible repeat (first | apply Kd.R_alloc | apply Kd.R_drewN | apply Kd.R_drew)); exact HO_5.out) hb); replace HO_621000 := aM (Kd.R_below (by (with_reducible repeat (first | apply Kd.R_alloc | apply Kd.R_drewN | apply Kd.R_drew)); exact HO_621000.out) hb); replace HO625 := aM (Kd.R_below (by (with_reducible repeat (first | apply Kd.R_alloc | apply Kd.R_drewN | apply Kd.R_drew)); exact HO625.out) hb); have BK626 := aM hbox; have GW626 := aM (zG hg : w.heap.size ≤ gb626); have GE626 := aM (zG hg : w.heap.size ≤ gb626); replace HB := cH HB hb; have NB620_626 := aM ((zL hg BK620)); have NB626_620 := aM ((zM hg BK620)); replace BK620 := cB BK620 hb; clear hb hbox hg; have hnb26 := NB626_620.out; have hnc26 := NB620_626.out; obtain ⟨hcz27_0, hcz27_1, hcz27_2, hcz27_3, hcz27_4⟩ := kk5 BK626; obtain ⟨hfz27_0, hfz27_1, hfz27_2, hfz27_3, hfz27_4⟩ := kg5 BK626))
         have n0_ : Aside0 (Kd.R (Kd.int .i64) 3 (((((w25.setCell ⟨gb626, 0, none⟩ (.int .i64 8)).setCell ⟨gb626, 1, none⟩ (.int .i64 8)).setCell ⟨gb626, 2, none⟩ (.int .i64 8)).setCell ⟨gb626, 3, none⟩ (.int .i64 0)).setCell ⟨gb626, 4, none⟩ (.slice Ao24 y623.length co24)) w.heap.size (fun k_ => some k_ ≠ (.slice Ao11 t613.length co11 : Value).ownBlock) (.slice Ao13 t610.length co13) t610) := ⟨by (with_reducible repeat (first | apply Kd.R_alloc | apply Kd.R_drewN | apply Kd.R_drew)); exact Kd.R_mono (Kd.R_far (p := ⟨gb626, 4, none⟩) (Kd.R_far (p := ⟨gb626, 3, none⟩) (Kd.R_far (p := ⟨gb626, 2, none⟩) (Kd.R_far (p := ⟨gb626, 1, none⟩) (Kd.R_far (p := ⟨gb626, 0, none⟩) (Kd.R_types HO_5.out BK626.out (by decide)) (fun _ hk => hk.2) (.int .i64 8)) (fun _ hk => hk.2) (.int .i64 8)) (fun _ hk => hk.2) (.int .i64 8)) (fun _ hk => hk.2) (.int .i64 0)) (fun _ hk => hk.2) (.slice Ao24 y623.length co24)) (fun _ hk => hk.1)⟩
         have n1_ : Aside0 (Kd.R (Kd.int .i64) 3 (((((w25.setCell ⟨gb626, 0, none⟩ (.int .i64 8)).setCell ⟨gb626, 1, none⟩ (.int .i64 8)).setCell ⟨gb626, 2, none⟩ (.int .i64 8)).setCell ⟨gb626, 3, none⟩ (.int .i64 0)).setCell ⟨gb626, 4, none⟩ (.slice Ao24 y623.length co24)) w.heap.size (fun k_ => some k_ ≠ (.slice Ao13 t610.length co13 : Value).ownBlock) (.slice Ao11 t613.length co11) t613) := ⟨by (with_reducible repeat (first | apply Kd.R_alloc | apply Kd.R_drewN | apply Kd.R_drew)); exact Kd.R_mono (Kd.R_far (p := ⟨gb626, 4, none⟩) (Kd.R_far (p := ⟨gb626, 3, none⟩) (Kd.R_far (p := ⟨gb626, 2, none⟩) (Kd.R_far (p := ⟨gb626, 1, none⟩) (Kd.R_far (p := ⟨gb626, 0, none⟩) (Kd.R_types HO_621000.out BK626.out (by decide)) (fun _ hk => hk.2) (.int .i64 8)) (fun _ hk => hk.2) (.int .i64 8)) (fun _ hk => hk.2) (.int .i64 8)) (fun _ hk => hk.2) (.int .i64 0)) (fun _ hk => hk.2) (.slice Ao24 y623.length co24)) (fun _ hk => hk.1)⟩
         have n2_ : Aside0 (Kd.R k42 42 (((((w25.setCell ⟨gb626, 0, none⟩ (.int .i64 8)).setCell ⟨gb626, 1, none⟩ (.int .i64 8)).setCell ⟨gb626, 2, none⟩ (.int .i64 8)).setCell ⟨gb626, 3, none⟩ (.int .i64 0)).setCell ⟨gb626, 4, none⟩ (.slice Ao24 y623.length co24)) w.heap.size (fun _ => True) (.slice Ao24 y623.length co24) y623) := ⟨by (with_reducible repeat (first | apply Kd.R_alloc | apply Kd.R_drewN | apply Kd.R_drew)); exact Kd.R_mono (Kd.R_far (p := ⟨gb626, 4, none⟩) (Kd.R_far (p := ⟨gb626, 3, none⟩) (Kd.R_far (p := ⟨gb626, 2, none⟩) (Kd.R_far (p := ⟨gb626, 1, none⟩) (Kd.R_far (p := ⟨gb626, 0, none⟩) (Kd.R_types HO625.out BK626.out (by decide)) (fun _ hk => hk.2) (.int .i64 8)) (fun _ hk => hk.2) (.int .i64 8)) (fun _ hk => hk.2) (.int .i64 8)) (fun _ hk => hk.2) (.int .i64 0)) (fun _ hk => hk.2) (.slice Ao24 y623.length co24)) (fun _ hk => trivial)⟩
         have n3_ : Aside0 ((((((w25.setCell ⟨gb626, 0, none⟩ (.int .i64 8)).setCell ⟨gb626, 1, none⟩ (.int .i64 8)).setCell ⟨gb626, 2, none⟩ (.int .i64 8)).setCell ⟨gb626, 3, none⟩ (.int .i64 0)).setCell ⟨gb626, 4, none⟩ (.slice Ao24 y623.length co24)).heap[gb620]? = some (.cells #[.slice Ao11 t613.length co11, .int .i64 t616, .int .i64 t617, .int .i64 t618, .int .i64 t619] 28 (0, 0))) := ⟨by (with_reducible repeat (first | apply kN | apply kD | apply kA)); refine blk_far ?_ NB620_626.out _; (with_reducible repeat (first | apply kN | apply kD | apply kA)); refine blk_far ?_ NB620_626.out _; (with_reducible repeat (first | apply kN | apply kD | apply kA)); refine blk_far ?_ NB620_626.out _; (with_reducible repeat (first | apply kN | apply kD | apply kA)); refine blk_far ?_ NB620_626.out _; (with_reducible repeat (first | apply kN | apply kD | apply kA)); refine blk_far ?_ NB620_626.out _; (with_reducible repeat (first | apply kN | apply kD | apply kA)); exact BK620.out⟩
         have n4_ : Aside0 ((((((w25.setCell ⟨gb626, 0, none⟩ (.int .i64 8)).setCell ⟨gb626, 1, none⟩ (.int .i64 8)).setCell ⟨gb626, 2, none⟩ (.int .i64 8)).setCell ⟨gb626, 3, none⟩ (.int .i64 0)).setCell ⟨gb626, 4, none⟩ (.slice Ao24 y623.length co24)).heap[gb626]? = some (.cells #[.int .i64 8, .int .i64 8, .int .i64 8, .int .i64 0, .slice Ao24 y623.length co24] 45 (0, 0))) := ⟨by (with_reducible repeat (first | apply kN | apply kD | apply kA)); refine blk_put (cs := #[.int .i64 8, .int .i64 8, .int .i64 8, .int .i64 0, .slice none 0 0]) ?_ 4 _ rfl; (with_reducible repeat (first | apply kN | apply kD | apply kA)); refine blk_put (cs := #[.int .i64 8, .int .i64 8, .int .i64 8, .int .i64 0, .slice none 0 0]) ?_ 3 _ rfl; (with_reducible repeat (first | apply kN | apply kD | apply kA)); refine blk_put (cs := #[.int .i64 8, .int .i64 8, .int .i64 0, .int .i64 0, .slice none 0 0]) ?_ 2 _ rfl; (with_reducible repeat (first | apply kN | apply kD | apply kA)); refine blk_put (cs := #[.int .i64 8, .int .i64 0, .int .i64 0, .int .i64 0, .slice none 0 0]) ?_ 1 _ rfl; (with_reducible repeat (first | apply kN | apply kD | apply kA)); refine blk_put (cs := #[.int .i64 0, .int .i64 0, .int .i64 0, .int .i64 0, .slice none 0 0]) ?_ 0 _ rfl; (with_reducible repeat (first | apply kN | apply kD | apply kA)); exact BK626.out⟩
         have n5_ : Aside0 (Below w.heap.size w (((((w25.setCell ⟨gb626, 0, none⟩ (.int .i64 8)).setCell ⟨gb626, 1, none⟩ (.int .i64 8)).setCell ⟨gb626, 2, none⟩ (.int .i64 8)).setCell ⟨gb626, 3, none⟩ (.int .i64 0)).setCell ⟨gb626, 4, none⟩ (.slice Ao24 y623.length co24))) := ⟨zH⟩
         (try clear HO_5)
         (try clear HO_621000)
         (try clear HO625)
         (try clear BK620)
         (try clear BK626)
         (try clear HB)
         generalize (((((w25.setCell ⟨gb626, 0, none⟩ (.int .i64 8)).setCell ⟨gb626, 1, none⟩ (.int .i64 8)).setCell ⟨gb626, 2, none⟩ (.int .i64 8)).setCell ⟨gb626, 3, none⟩ (.int .i64 0)).setCell ⟨gb626, 4, none⟩ (.slice Ao24 y623.length co24)) = w28 at n0_ n1_ n2_ n3_ n4_ n5_ ⊢
         have HO_5 := n0_
         have HO_621000 := n1_
         have HO625 := n2_
         have BK620 := n3_
         have BK626 := n4_
         have HB := n5_
         clear n0_ n1_ n2_ n3_ n4_ n5_
         have n0_ := aM (Kd.R_drew HO_5.out)
         have n1_ := aM (Kd.R_drew HO_621000.out)
         have n2_ := aM (Kd.R_drew HO625.out)
         have n3_ := aM (kD BK620.out)
         have n4_ := aM (kD BK626.out)
         have n5_ := aM (b1 HB.out)
         clear HO_5
         clear HO_621000
         clear HO625
         clear BK620
         clear BK626
         clear HB
         have HO_5 := n0_
         have HO_621000 := n1_
         have HO625 := n2_
         have BK620 := n3_
         have BK626 := n4_
         have HB := n5_
         clear n0_ n1_ n2_ n3_ n4_ n5_
         refine start_ (n := 5) (S := fun w' => w'.cell? ⟨gb626, 0, none⟩ = some (.int .i64 8) ∧ w'.cell? ⟨gb626, 1, none⟩ = some (.int .i64 8) ∧ w'.cell? ⟨gb626, 2, none⟩ = some (.int .i64 8) ∧ w'.cell? ⟨gb626, 3, none⟩ = some (.int .i64 0) ∧ w'.cell? ⟨gb626, 4, none⟩ = some (.slice Ao24 y623.length co24)) (ds := []) #[false, false, false, false, false] (by kernel_rfl) rfl rfl ⟨(kC BK626.out 0).trans rfl, (kC BK626.out 1).trans rfl, (kC BK626.out 2).trans rfl, (kC BK626.out 3).trans rfl, (kC BK626.out 4).trans rfl⟩ (fun hHeld => ?_)
         generalize w28.drew = w29 at HO_5 HO_621000 HO625 BK620 BK626 HB hHeld ⊢
         refine pure_ (i := 1) (N := some 62) (v := ?_) (a' := ?_) #[false, true, false, false, false] rfl rfl (by kernel_rfl) (fun _ _ _ h => h) (Or.inl ⟨by rfl, ?_⟩) ?_ ?_
         rotate_left
         ·intro w'
          go_simp
          with_reducible rfl
         rotate_left
         ·simp only [Act.put, List.setIfInBounds_toArray, List.set_cons_zero, List.set_cons_succ, i64_w, i32_w]
          rfl
         refine take_ (i := 0) (N := some 61) (v := ?_) (a' := ?_) #[true, true, false, false, false] rfl rfl (by kernel_rfl) (fun _ _ _ h => h) (Or.inl ⟨by rfl, ?_⟩) hHeld ?_ ?_
         rotate_left
         ·rintro w' ⟨s0, s1, s2, s3, s4⟩
          go_simp
          with_reducible rfl
         rotate_left
         ·simp only [Act.put, List.setIfInBounds_toArray, List.set_cons_zero, List.set_cons_succ, i64_w, i32_w]
          rfl
         refine one_ (i := 2) (N := some 63) #[true, true, true, false, false] rfl rfl (by kernel_rfl) (by decide) (fun K hK => ?_)
         refine zGo Try.func34 #[.slice A1 l1.length c1, .int .i64 0, .int .i64 3] ?_
         with_reducible refine (laws_pick.calls k2 _ _ l1 0 3 t627 _ ?side1 ?side2 A19.out).mono ?_
         (case side1 => exact zC (Kd.C_below HR1.out HB.out))
         (case side2 => exact HC1.out)
         rintro e w' ⟨rfl, ⟨nd, rfl⟩⟩
         refine ⟨_, rfl, ?_⟩
         refine hK.out _ _ ⟨(kC BK626.out 0).trans rfl, (kC BK626.out 1).trans rfl, (kC BK626.out 2).trans rfl, (kC BK626.out 3).trans rfl, (kC BK626.out 4).trans rfl⟩ (fun hHeld => ?_)
         clear hK K
         refine zNo (some 63) ?_
         refine one_ (i := 3) (N := some 64) #[true, true, true, true, false] rfl rfl (by kernel_rfl) (by decide) (fun K hK => ?_)
         refine zGo Try.func33 #[.agg #[.int .i64 8, .int .i64 8, .int .i64 8, .int .i64 0, .slice Ao24 y623.length co24], .int .i64 t627] ?_
         with_reducible refine (spec_ScriptFor.calls k2 8 8 8 0 _ _ y623 t627 t628 _ ?side1 ?side2 A20.out).mono ?_
         (case side1 => exact zC (Kd.R_reads' HO625.out).2.2)
         (case side2 => exact (Kd.R_reads' HO625.out).2.1)
         rintro e w30 ⟨v629, rfl, ho0, hb⟩
         refine ⟨_, rfl, ?_⟩
         have n0_ := aM (Kd.R_below (by (with_reducible repeat (first | apply Kd.R_alloc | apply Kd.R_drewN | apply Kd.R_drew)); exact HO_5.out) hb)
         have n1_ := aM (Kd.R_below (by (with_reducible repeat (first | apply Kd.R_alloc | apply Kd.R_drewN | apply Kd.R_drew)); exact HO_621000.out) hb)
         have n2_ := aM (Kd.R_below (by (with_reducible repeat (first | apply Kd.R_alloc | apply Kd.R_drewN | apply Kd.R_drew)); exact HO625.out) hb)
         have n3_ := aM (Kd.N_lower (Kd.N_mono (ok' := fun k_ => some k_ ≠ (.slice Ao13 t610.length co13 : Value).ownBlock ∧ some k_ ≠ (.slice Ao11 t613.length co11 : Value).ownBlock ∧ some k_ ≠ (.slice Ao24 y623.length co24 : Value).ownBlock ∧ k_ ≠ gb620 ∧ k_ ≠ gb626) ho0 (fun k_ hk_ => ⟨(Kd.fresh' (Kd.R_lt (by (with_reducible repeat (first | apply Kd.R_alloc | apply Kd.R_drewN | apply Kd.R_drew)); exact HO_5.out)) k_ hk_), (Kd.fresh' (Kd.R_lt (by (with_reducible repeat (first | apply Kd.R_alloc | apply Kd.R_drewN | apply Kd.R_drew)); exact HO_621000.out)) k_ hk_), (Kd.fresh' (Kd.R_lt (by (with_reducible repeat (first | apply Kd.R_alloc | apply Kd.R_drewN | apply Kd.R_drew)); exact HO625.out)) k_ hk_), (Kd.freshB (g := gb620) (o := .cells #[.slice Ao11 t613.length co11, .int .i64 t616, .int .i64 t617, .int .i64 t618, .int .i64 t619] 28 (0, 0)) (zK BK620) k_ hk_), (Kd.freshB (g := gb626) (o := .cells #[.int .i64 8, .int .i64 8, .int .i64 8, .int .i64 0, .slice Ao24 y623.length co24] 45 (0, 0)) (zK BK626) k_ hk_)⟩)) (below_size zH))
         have n4_ := cB BK620 hb
         have n5_ := cB BK626 hb
         have n6_ := cH HB hb
         clear HO_5
         clear HO_621000
         clear HO625
         clear BK620
         clear BK626
         clear HB
         have HO_5 := n0_
         have HO_621000 := n1_
         have HO625 := n2_
         have HO630 := n3_
         have BK620 := n4_
         have BK626 := n5_
         have HB := n6_
         clear n0_ n1_ n2_ n3_ n4_ n5_ n6_
         (try clear hb)
         (try clear hb2)
         (try clear hk)
         (try clear hi)
         (try clear ho0)
         refine hK.out _ _ ⟨(kC BK626.out 0).trans rfl, (kC BK626.out 1).trans rfl, (kC BK626.out 2).trans rfl, (kC BK626.out 3).trans rfl, (kC BK626.out 4).trans rfl⟩ (fun hHeld => ?_)
         clear hK K
         refine zNo (some 64) ?_
         refine pure_ (i := 4) (N := some 10) (v := ?_) (a' := ?_) #[true, true, true, true, true] rfl rfl (by kernel_rfl) (fun _ _ _ h => h) (Or.inl ⟨by rfl, ?_⟩) ?_ ?_
         rotate_left
         ·intro w'
          go_simp
          with_reducible rfl
         rotate_left
         ·simp only [Act.put, List.setIfInBounds_toArray, List.set_cons_zero, List.set_cons_succ, i64_w, i32_w]
          rfl
         refine done_ (by kernel_rfl) ?_
         try go_wp2_with (first | ((with_reducible refine gate_dst (N := 65) rfl ?_); (try (refine gate_guard (by rfl) ?_; dsimp only)); refine Kd.R_make (Kd.int .i64) _ 3 rfl (N := 65) rfl 22 _ _ rfl 64 rfl rfl Try.underlying22 (.int .i64 0) 8 info3 rfl (by decide) (by omega) 0 (ok := fun _ => True) (okp := fun _ => True) rfl (fun _ hk => hk) trivial (by omega) (by omega) (Below.refl _ _) (Nat.le_refl _) ?_; intro v632 w31 ho32 hb hg_ hnew_; clear hg_ hnew_; (first | rw [← Ny631.out] at ho32 | (simp only [Int.reduceToNat] at ho32; rw [← Ny631.out] at ho32)); replace HO625 := aM (Kd.R_below (by (with_reducible repeat (first | apply Kd.R_alloc | apply Kd.R_drewN | apply Kd.R_drew)); exact HO625.out) hb); replace HO630 := aM (Kd.N_elder' (by (with_reducible repeat (first | apply Kd.N_alloc | apply Kd.N_drewN | apply Kd.N_drew)); exact HO630.out) (Kd.R_base ho32) hb); have HO633 := aM (Kd.R_lower (Kd.R_new' (Kd.R_new' ho32 (Kd.R_lt (by (with_reducible repeat (first | apply Kd.R_alloc | apply Kd.R_drewN | apply Kd.R_drew)); exact HO_5.out))) (Kd.R_lt (by (with_reducible repeat (first | apply Kd.R_alloc | apply Kd.R_drewN | apply Kd.R_drew)); exact HO_621000.out))) (below_size zH)); replace HO_5 := aM (Kd.R_elder' (by (with_reducible repeat (first | apply Kd.R_alloc | apply Kd.R_drewN | apply Kd.R_drew)); exact HO_5.out) (Kd.R_base ho32) hb); replace HO_621000 := aM (Kd.R_elder' (by (with_reducible repeat (first | apply Kd.R_alloc | apply Kd.R_drewN | apply Kd.R_drew)); exact HO_621000.out) (Kd.R_base ho32) hb); replace BK620 := cB BK620 hb; replace BK626 := cB BK626 hb; replace HB := cH HB hb; clear hb ho32))
         go_loopg [11, 12] k2 (fun kq v11 v12 w' => ∃ (x11_3 : List Int) (x12_3 : Int), v12 = .int .i64 x12_3 ∧ Aside0 (laws_FnPasses.l1 kq t610 t628 x11_3 x12_3 8 8 8 0 y623 = some r) ∧ Aside0 (kq ≤ k2) ∧ Aside0 (Kd.R (Kd.int .i64) 3 w' w.heap.size (fun k_ => some k_ ≠ (v11 : Value).ownBlock ∧ some k_ ≠ ((.slice Ao11 t613.length co11) : Value).ownBlock) (.slice Ao13 t610.length co13) t610) ∧ Aside0 (Kd.N k28 28 w' w.heap.size (fun k_ => some k_ ≠ ((.slice Ao13 t610.length co13) : Value).ownBlock ∧ some k_ ≠ (v11 : Value).ownBlock ∧ some k_ ≠ ((.slice Ao11 t613.length co11) : Value).ownBlock ∧ some k_ ≠ ((.slice Ao24 y623.length co24) : Value).ownBlock ∧ k_ ≠ gb620 ∧ k_ ≠ gb626) v629 t628) ∧ Aside0 (Kd.R (Kd.int .i64) 3 w' w.heap.size (fun k_ => some k_ ≠ ((.slice Ao13 t610.length co13) : Value).ownBlock ∧ some k_ ≠ ((.slice Ao11 t613.length co11) : Value).ownBlock) v11 x11_3) ∧ Aside0 (Kd.R (Kd.int .i64) 3 w' w.heap.size (fun k_ => some k_ ≠ ((.slice Ao13 t610.length co13) : Value).ownBlock ∧ some k_ ≠ (v11 : Value).ownBlock) (.slice Ao11 t613.length co11) t613) ∧ Aside0 (Kd.R k42 42 w' w.heap.size (fun _ => True) (.slice Ao24 y623.length co24) y623) ∧ Aside0 (w'.heap[gb620]? = some (.cells #[(.slice Ao11 t613.length co11), .int .i64 t616, .int .i64 t617, .int .i64 t618, .int .i64 t619] 28 (0, 0))) ∧ Aside0 (w'.heap[gb626]? = some (.cells #[.int .i64 8, .int .i64 8, .int .i64 8, .int .i64 0, (.slice Ao24 y623.length co24)] 45 (0, 0))) ∧ Aside0 (Below w.heap.size w w'))
         case atStart => exact ⟨(y631), (0), zS, H', ⟨Nat.le_refl _⟩, ⟨by (with_reducible repeat (first | apply Kd.R_alloc | apply Kd.R_drewN | apply Kd.R_drew)); exact Kd.R_mono HO_5.out (fun _ hk => ⟨hk.2, hk.1⟩)⟩, ⟨by (with_reducible repeat (first | apply Kd.N_alloc | apply Kd.N_drewN | apply Kd.N_drew)); exact Kd.N_mono HO630.out (fun _ hk => ⟨hk.1.1, ⟨hk.2, ⟨hk.1.2.1, ⟨hk.1.2.2.1, ⟨hk.1.2.2.2.1, hk.1.2.2.2.2⟩⟩⟩⟩⟩)⟩, ⟨by (with_reducible repeat (first | apply Kd.R_alloc | apply Kd.R_drewN | apply Kd.R_drew)); exact Kd.R_mono HO633.out (fun _ hk => ⟨hk.1.2, hk.2⟩)⟩, ⟨by (with_reducible repeat (first | apply Kd.R_alloc | apply Kd.R_drewN | apply Kd.R_drew)); exact HO_621000.out⟩, ⟨by (with_reducible repeat (first | apply Kd.R_alloc | apply Kd.R_drewN | apply Kd.R_drew)); exact HO625.out⟩, ⟨zK BK620⟩, ⟨zK BK626⟩, ⟨zH⟩⟩
         case round =>
          clear H'
          (try clear c1); (try clear c4); (try clear c14b0); (try clear c18); (try clear c21b0); (try clear c21b1); (try clear hcz27_0); (try clear hcz27_1); (try clear hcz27_2); (try clear hcz27_3); (try clear hcz27_4); (try clear hfz27_0); (try clear hfz27_1); (try clear hfz27_2); (try clear hfz27_3); (try clear hfz27_4)
          obtain ⟨x11_3, x12_3, rfl, HA, HK3, HO_5, HO_10, HO_11, HO_621000, HO_627004, BK620, BK626, HB⟩ := hrel
          cases gk with
          | zero => exact absurd HA.out (by simp [laws_FnPasses.l1])
          | succ k3 =>
           have H := HA.out
           clear HA
           simp only [laws_FnPasses.l1] at H
           by_cases c33 : x12_3 < (t628.length : Int)
           ·rw [if_pos c33] at H
            have c33b0 : decide (x12_3 < (t628.length : Int)) = true := decide_eq_true c33
            clear c33
            by_cases c34 : 0 ≤ x12_3
            ·rw [if_pos c34] at H
             have c34b0 : decide (0 ≤ x12_3) = true := decide_eq_true c34
             clear c34
             have HC35 := aM H
             clear H
             obtain ⟨Ao36, co36, eo36⟩ := Kd.N_slice HO_10.out
             subst eo36
             have p635 : 0 ≤ (x12_3 : Int) := zA
             have q635 : x12_3 < (t628.length : Int) := zA
             obtain ⟨ad635, A635_0, c635_0, e635, hx635_0, hx635_1, hx635_2, hx635_3, hx635_4, hl635_0, hi635_0⟩ := at_T28 (Kd.N_reads' HO_10.out).2.2 x12_3 p635 q635
             cases e635
             obtain ⟨ce635, hce635, hMe635, hcc635⟩ := Kd.N_get HO_10.out z28 x12_3 p635 (by first | exact q635 | exact zA | (have e_ := (Kd.N_reads' HO_10.out).1; omega))
             obtain ⟨ua635_0, uc635_0, rfl, ul635_0, ge635_0⟩ := k28_openF hMe635
             have hv635_0 := hcc635 0 _ rfl
             rw [Nat.add_zero] at hv635_0
             replace hv635_0 := Option.some.inj (hv635_0.symm.trans hx635_0)
             injection hv635_0 with hva_ hvn_ hvc_
             rw [hva_] at ge635_0
             rw [hvc_] at ul635_0
             have HL635_0 := aM (show Kd.V (Kd.int .i64) 3 _ w.heap.size _ _ ((rd_T28 t628 x12_3).f0) from Kd.V_mk ul635_0 ge635_0)
             clear hva_ hvn_ hvc_ ge635_0 ul635_0
             clear hcc635 hce635
             have HR635_0 := aM hi635_0
             have HC635_0 := aM hl635_0
             clear hi635_0 hl635_0
             replace p635 := eq_true p635
             replace q635 := eq_true q635
             go_upto_if 78 with (first | ((with_reducible refine gate_dst (N := 13) rfl ?_); (try (refine gate_guard (by rfl) ?_; dsimp only)); refine box_event ?hg (N := 13) ?hd (cs := #[.slice none 0 0, .int .i64 0, .int .i64 0, .int .i64 0, .int .i64 0]) (t := 28) ?hr ?_; (case hd => rfl); (case hg => rfl); (case hr => first | (go_simp; done) | (go_simp; rfl)); intro gb636 hg w37 hbox hb; have n0_ := aM (Kd.R_below (by (with_reducible repeat (first | apply Kd.R_alloc | apply Kd.R_drewN | apply Kd.R_drew)); exact HO_5.out) hb); have n1_ := aM (Kd.N_below (Kd.N_elderB (by (with_reducible repeat (first | apply Kd.N_alloc | apply Kd.N_drewN | apply Kd.N_drew)); exact HO_10.out) gb636 (Nat.le_of_eq hg.symm)) hb); have n2_ := aM (Kd.R_below (by (with_reducible repeat (first | apply Kd.R_alloc | apply Kd.R_drewN | apply Kd.R_drew)); exact HO_11.out) hb); have n3_ := aM (Kd.R_below (by (with_reducible repeat (first | apply Kd.R_alloc | apply Kd.R_drewN | apply Kd.R_drew)); exact HO_621000.out) hb); have n4_ := aM (Kd.R_below (by (with_reducible repeat (first | apply Kd.R_alloc | apply Kd.R_drewN | apply Kd.R_drew)); exact HO_627004.out) hb); have n5_ := aM (Kd.V_below (Kd.V_elderB (by (with_reducible repeat (first | apply Kd.V_alloc | apply Kd.V_drewN | apply Kd.V_drew)); exact HL635_0.out) gb636 (Nat.le_of_eq hg.symm)) hb); have n6_ := cB BK620 hb; have n7_ := cB BK626 hb; have n8_ := cC HR635_0 hb; have n9_ := cH HB hb; have n10_ := aM hbox; have n11_ := aM (zG hg : w.heap.size ≤ gb636); have n12_ := aM (zG hg : w.heap.size ≤ gb636); have n13_ := aM ((zL hg BK620)); have n14_ := aM ((zM hg BK620)); have n15_ := aM ((zL hg BK626)); have n16_ := aM ((zM hg BK626)); clear HO_5; clear HO_10; clear HO_11; clear HO_621000; clear HO_627004; clear HL635_0; clear BK620; clear BK626; clear HR635_0; clear HB; have HO_5 := n0_; have HO_10 := n1_; have HO_11 := n2_; have HO_621000 := n3_; have HO_627004 := n4_; have HL635_0 := n5_; have BK620 := n6_; have BK626 := n7_; have HR635_0 := n8_; have HB := n9_; have BK636 := n10_; have GW636 := n11_; have GE636 := n12_; have NB620_636 := n13_; have NB636_620 := n14_; have NB626_636 := n15_; have NB636_626 := n16_; clear n0_ n1_ n2_ n3_ n4_ n5_ n6_ n7_ n8_ n9_ n10_ n11_ n12_ n13_ n14_ n15_ n16_; clear hb hbox hg; have hnb38 := NB636_620.out; have hnc38 := NB620_636.out; have hnb39 := NB636_626.out; have hnc39 := NB626_636.out; have hcz40_0 : w37.cell? ⟨gb636, 0, none⟩ = some (.slice none 0 0) := (kC BK636.out 0).trans rfl; have hcz40_1 : w37.cell? ⟨gb636, 1, none⟩ = some (.int .i64 0) := (kC BK636.out 1).trans rfl; have hcz40_2 : w37.cell? ⟨gb636, 2, none⟩ = some (.int .i64 0) := (kC BK636.out 2).trans rfl; have hcz40_3 : w37.cell? ⟨gb636, 3, none⟩ = some (.int .i64 0) := (kC BK636.out 3).trans rfl; have hcz40_4 : w37.cell? ⟨gb636, 4, none⟩ = some (.int .i64 0) := (kC BK636.out 4).trans rfl; have hfz40_0 := blk_frozen BK636.out 0; have hfz40_1 := blk_frozen BK636.out 1; have hfz40_2 := blk_frozen BK636.out 2; have hfz40_3 := blk_frozen BK636.out 3; have hfz40_4 := blk_frozen BK636.out 4))
             (try simp only [Act.put, List.setIfInBounds_toArray, List.set_cons_zero, List.set_cons_succ])
             go_cut [11] (fun v11 wc => ∃ (kq : Nat) (x11_34 : List Int), Aside0 (laws_FnPasses.j3 kq t610 t628 x11_34 x12_3 8 8 8 0 y623 = some r) ∧ Aside0 (kq ≤ k3) ∧ Aside0 (Kd.R (Kd.int .i64) 3 wc w.heap.size (fun k_ => some k_ ≠ (v11 : Value).ownBlock ∧ some k_ ≠ ((.slice Ao11 t613.length co11) : Value).ownBlock) (.slice Ao13 t610.length co13) t610) ∧ Aside0 (Kd.N k28 28 wc w.heap.size (fun k_ => some k_ ≠ ((.slice Ao13 t610.length co13) : Value).ownBlock ∧ some k_ ≠ (v11 : Value).ownBlock ∧ some k_ ≠ ((.slice Ao11 t613.length co11) : Value).ownBlock ∧ some k_ ≠ ((.slice Ao24 y623.length co24) : Value).ownBlock ∧ k_ ≠ gb620 ∧ k_ ≠ gb626) (.slice (some ad635) t628.length co36) t628) ∧ Aside0 (Kd.R (Kd.int .i64) 3 wc w.heap.size (fun k_ => some k_ ≠ ((.slice Ao13 t610.length co13) : Value).ownBlock ∧ some k_ ≠ ((.slice Ao11 t613.length co11) : Value).ownBlock) v11 x11_34) ∧ Aside0 (Kd.R (Kd.int .i64) 3 wc w.heap.size (fun k_ => some k_ ≠ ((.slice Ao13 t610.length co13) : Value).ownBlock ∧ some k_ ≠ (v11 : Value).ownBlock) (.slice Ao11 t613.length co11) t613) ∧ Aside0 (Kd.R k42 42 wc w.heap.size (fun _ => True) (.slice Ao24 y623.length co24) y623) ∧ Aside0 (wc.heap[gb620]? = some (.cells #[(.slice Ao11 t613.length co11), .int .i64 t616, .int .i64 t617, .int .i64 t618, .int .i64 t619] 28 (0, 0))) ∧ Aside0 (wc.heap[gb626]? = some (.cells #[.int .i64 8, .int .i64 8, .int .i64 8, .int .i64 0, (.slice Ao24 y623.length co24)] 45 (0, 0))) ∧ Aside0 (Kd.C (Kd.int .i64) wc A635_0 ((rd_T28 t628 x12_3).f0).length ((rd_T28 t628 x12_3).f0)) ∧ Aside0 (Below w.heap.size w wc))
             case first =>
              have H := HC35.out
              clear HC35
              by_cases c41 : ((rd_T28 t628 x12_3).f3) = 0
              ·rw [if_pos c41] at H
               have c41b0 : (((rd_T28 t628 x12_3).f3) == 0) = true := beq_iff_eq.mpr c41
               have c41b1 : (((rd_T28 t628 x12_3).f3) != 0) = false := bne_eq_false_iff_eq.mpr c41
               clear c41
               (first | rw [c41b0] | (simp only [i64_w, i32_w]; rw [c41b0]) | skip)
               obtain ⟨t637, A42, H⟩ := oH H
               obtain ⟨t640, A43, H⟩ := oH H
               obtain ⟨t643, A44, H⟩ := oH H
               by_cases c45 : t643 = true
               ·subst c45
                replace H := iT H
                obtain ⟨t644, A46, H⟩ := oH H
                have H' := aM H
                clear H
                have hnb47 := NB636_620.out
                have hnc47 := NB620_636.out
                have hnb48 := NB636_626.out
                have hnc48 := NB626_636.out
                obtain ⟨hcz49_0, hcz49_1, hcz49_2, hcz49_3, hcz49_4⟩ := kk5 BK636
                obtain ⟨hfz49_0, hfz49_1, hfz49_2, hfz49_3, hfz49_4⟩ := kg5 BK636
                go_wp2_with (first | ((with_reducible refine gate_callee (f := 19) rfl ?_); refine zGl (some 81) Try.func19 #[.slice Ao13 t610.length co13, .agg #[.slice A635_0 ((rd_T28 t628 x12_3).f0).length c635_0, .int .i64 ((rd_T28 t628 x12_3).f1), .int .i64 ((rd_T28 t628 x12_3).f2), .int .i64 ((rd_T28 t628 x12_3).f3), .int .i64 ((rd_T28 t628 x12_3).f4)]] ?_; (with_reducible refine (impl_FirstOf.calls k3 _ _ t610 _ _ ((rd_T28 t628 x12_3).f0) ((rd_T28 t628 x12_3).f1) ((rd_T28 t628 x12_3).f2) ((rd_T28 t628 x12_3).f3) ((rd_T28 t628 x12_3).f4) t637 _ ?side1 ?side2 ?side3 ?side4 A42.out).mono ?_); (case side1 => refine (Kd.R_reads' (e := 3) (base := w.heap.size) (ok := fun k_ => (some k_ ≠ (u11 : Value).ownBlock ∧ some k_ ≠ (.slice Ao11 t613.length co11 : Value).ownBlock)) (n := t610.length) (c := co13) ?_).2.2; exact (by (with_reducible repeat (first | apply Kd.R_alloc | apply Kd.R_drewN | apply Kd.R_drew)); exact (Kd.R_mono (Kd.R_far (p := ⟨gb636, 4, none⟩) (Kd.R_far (p := ⟨gb636, 3, none⟩) (Kd.R_far (p := ⟨gb636, 2, none⟩) (Kd.R_far (p := ⟨gb636, 1, none⟩) (Kd.R_far (p := ⟨gb636, 0, none⟩) (Kd.R_types HO_5.out BK636.out (by decide)) (fun _ hk => hk.2) (.slice A635_0 ((rd_T28 t628 x12_3).f0).length c635_0)) (fun _ hk => hk.2) (.int .i64 ((rd_T28 t628 x12_3).f1))) (fun _ hk => hk.2) (.int .i64 ((rd_T28 t628 x12_3).f2))) (fun _ hk => hk.2) (.int .i64 ((rd_T28 t628 x12_3).f3))) (fun _ hk => hk.2) (.int .i64 ((rd_T28 t628 x12_3).f4))) (fun _ h_ => h_.1)))); (case side2 => exact (Kd.R_reads' HO_5.out).2.1); (case side3 => repeat (first | exact ((Kd.V_reads' (by (with_reducible repeat (first | apply Kd.V_alloc | apply Kd.V_drewN | apply Kd.V_drew)); exact (Kd.V_mono (Kd.V_far (p := ⟨gb636, 4, none⟩) (Kd.V_far (p := ⟨gb636, 3, none⟩) (Kd.V_far (p := ⟨gb636, 2, none⟩) (Kd.V_far (p := ⟨gb636, 1, none⟩) (Kd.V_far (p := ⟨gb636, 0, none⟩) (Kd.V_mono HL635_0.out (fun k_ hk => (⟨hk, hk.2⟩ : _ ∧ k_ ≠ gb636))) (fun _ hk => hk.2) (.slice A635_0 ((rd_T28 t628 x12_3).f0).length c635_0)) (fun _ hk => hk.2) (.int .i64 ((rd_T28 t628 x12_3).f1))) (fun _ hk => hk.2) (.int .i64 ((rd_T28 t628 x12_3).f2))) (fun _ hk => hk.2) (.int .i64 ((rd_T28 t628 x12_3).f3))) (fun _ hk => hk.2) (.int .i64 ((rd_T28 t628 x12_3).f4))) (fun _ h_ => h_.1)))).2.2) | (with_reducible first | refine Kd.C_alloc ?_ _ | refine Kd.C_drewN ?_ _ | refine Kd.C_drew ?_))); (case side4 => exact HC635_0.out); rintro e w50 ⟨v638, rfl, ho0, hb⟩; refine ⟨_, rfl, ?_⟩; replace HO_10 := aM (Kd.N_elder' (by (with_reducible repeat (first | apply Kd.N_alloc | apply Kd.N_drewN | apply Kd.N_drew)); exact (Kd.N_mono (Kd.N_far (p := ⟨gb636, 4, none⟩) (Kd.N_far (p := ⟨gb636, 3, none⟩) (Kd.N_far (p := ⟨gb636, 2, none⟩) (Kd.N_far (p := ⟨gb636, 1, none⟩) (Kd.N_far (p := ⟨gb636, 0, none⟩) (Kd.N_mono HO_10.out (fun k_ hk => (⟨hk, hk.2⟩ : _ ∧ k_ ≠ gb636))) (fun _ hk => hk.2) (.slice A635_0 ((rd_T28 t628 x12_3).f0).length c635_0)) (fun _ hk => hk.2) (.int .i64 ((rd_T28 t628 x12_3).f1))) (fun _ hk => hk.2) (.int .i64 ((rd_T28 t628 x12_3).f2))) (fun _ hk => hk.2) (.int .i64 ((rd_T28 t628 x12_3).f3))) (fun _ hk => hk.2) (.int .i64 ((rd_T28 t628 x12_3).f4))) (fun _ h_ => h_.1))) (Kd.R_base ho0) hb); replace HO_627004 := aM (Kd.R_below (by (with_reducible repeat (first | apply Kd.R_alloc | apply Kd.R_drewN | apply Kd.R_drew)); exact (Kd.R_mono (Kd.R_far (p := ⟨gb636, 4, none⟩) (Kd.R_far (p := ⟨gb636, 3, none⟩) (Kd.R_far (p := ⟨gb636, 2, none⟩) (Kd.R_far (p := ⟨gb636, 1, none⟩) (Kd.R_far (p := ⟨gb636, 0, none⟩) (Kd.R_types HO_627004.out BK636.out (by decide)) (fun _ hk => hk.2) (.slice A635_0 ((rd_T28 t628 x12_3).f0).length c635_0)) (fun _ hk => hk.2) (.int .i64 ((rd_T28 t628 x12_3).f1))) (fun _ hk => hk.2) (.int .i64 ((rd_T28 t628 x12_3).f2))) (fun _ hk => hk.2) (.int .i64 ((rd_T28 t628 x12_3).f3))) (fun _ hk => hk.2) (.int .i64 ((rd_T28 t628 x12_3).f4))) (fun _ h_ => h_.1))) hb); have HO639 := aM (Kd.R_lower (Kd.R_new' (Kd.R_new' (Kd.R_new' ho0 (Kd.R_lt (by (with_reducible repeat (first | apply Kd.R_alloc | apply Kd.R_drewN | apply Kd.R_drew)); exact (Kd.R_mono (Kd.R_far (p := ⟨gb636, 4, none⟩) (Kd.R_far (p := ⟨gb636, 3, none⟩) (Kd.R_far (p := ⟨gb636, 2, none⟩) (Kd.R_far (p := ⟨gb636, 1, none⟩) (Kd.R_far (p := ⟨gb636, 0, none⟩) (Kd.R_types HO_5.out BK636.out (by decide)) (fun _ hk => hk.2) (.slice A635_0 ((rd_T28 t628 x12_3).f0).length c635_0)) (fun _ hk => hk.2) (.int .i64 ((rd_T28 t628 x12_3).f1))) (fun _ hk => hk.2) (.int .i64 ((rd_T28 t628 x12_3).f2))) (fun _ hk => hk.2) (.int .i64 ((rd_T28 t628 x12_3).f3))) (fun _ hk => hk.2) (.int .i64 ((rd_T28 t628 x12_3).f4))) (fun _ h_ => h_.1))))) (Kd.R_lt (by (with_reducible repeat (first | apply Kd.R_alloc | apply Kd.R_drewN | apply Kd.R_drew)); exact (Kd.R_mono (Kd.R_far (p := ⟨gb636, 4, none⟩) (Kd.R_far (p := ⟨gb636, 3, none⟩) (Kd.R_far (p := ⟨gb636, 2, none⟩) (Kd.R_far (p := ⟨gb636, 1, none⟩) (Kd.R_far (p := ⟨gb636, 0, none⟩) (Kd.R_types HO_11.out BK636.out (by decide)) (fun _ hk => hk.2) (.slice A635_0 ((rd_T28 t628 x12_3).f0).length c635_0)) (fun _ hk => hk.2) (.int .i64 ((rd_T28 t628 x12_3).f1))) (fun _ hk => hk.2) (.int .i64 ((rd_T28 t628 x12_3).f2))) (fun _ hk => hk.2) (.int .i64 ((rd_T28 t628 x12_3).f3))) (fun _ hk => hk.2) (.int .i64 ((rd_T28 t628 x12_3).f4))) (fun _ h_ => h_.1))))) (Kd.R_lt (by (with_reducible repeat (first | apply Kd.R_alloc | apply Kd.R_drewN | apply Kd.R_drew)); exact (Kd.R_mono (Kd.R_far (p := ⟨gb636, 4, none⟩) (Kd.R_far (p := ⟨gb636, 3, none⟩) (Kd.R_far (p := ⟨gb636, 2, none⟩) (Kd.R_far (p := ⟨gb636, 1, none⟩) (Kd.R_far (p := ⟨gb636, 0, none⟩) (Kd.R_types HO_621000.out BK636.out (by decide)) (fun _ hk => hk.2) (.slice A635_0 ((rd_T28 t628 x12_3).f0).length c635_0)) (fun _ hk => hk.2) (.int .i64 ((rd_T28 t628 x12_3).f1))) (fun _ hk => hk.2) (.int .i64 ((rd_T28 t628 x12_3).f2))) (fun _ hk => hk.2) (.int .i64 ((rd_T28 t628 x12_3).f3))) (fun _ hk => hk.2) (.int .i64 ((rd_T28 t628 x12_3).f4))) (fun _ h_ => h_.1))))) (below_size zH)); replace HO_5 := aM (Kd.R_elder' (by (with_reducible repeat (first | apply Kd.R_alloc | apply Kd.R_drewN | apply Kd.R_drew)); exact (Kd.R_mono (Kd.R_far (p := ⟨gb636, 4, none⟩) (Kd.R_far (p := ⟨gb636, 3, none⟩) (Kd.R_far (p := ⟨gb636, 2, none⟩) (Kd.R_far (p := ⟨gb636, 1, none⟩) (Kd.R_far (p := ⟨gb636, 0, none⟩) (Kd.R_types HO_5.out BK636.out (by decide)) (fun _ hk => hk.2) (.slice A635_0 ((rd_T28 t628 x12_3).f0).length c635_0)) (fun _ hk => hk.2) (.int .i64 ((rd_T28 t628 x12_3).f1))) (fun _ hk => hk.2) (.int .i64 ((rd_T28 t628 x12_3).f2))) (fun _ hk => hk.2) (.int .i64 ((rd_T28 t628 x12_3).f3))) (fun _ hk => hk.2) (.int .i64 ((rd_T28 t628 x12_3).f4))) (fun _ h_ => h_.1))) (Kd.R_base ho0) hb); replace HO_11 := aM (Kd.R_elder' (by (with_reducible repeat (first | apply Kd.R_alloc | apply Kd.R_drewN | apply Kd.R_drew)); exact (Kd.R_mono (Kd.R_far (p := ⟨gb636, 4, none⟩) (Kd.R_far (p := ⟨gb636, 3, none⟩) (Kd.R_far (p := ⟨gb636, 2, none⟩) (Kd.R_far (p := ⟨gb636, 1, none⟩) (Kd.R_far (p := ⟨gb636, 0, none⟩) (Kd.R_types HO_11.out BK636.out (by decide)) (fun _ hk => hk.2) (.slice A635_0 ((rd_T28 t628 x12_3).f0).length c635_0)) (fun _ hk => hk.2) (.int .i64 ((rd_T28 t628 x12_3).f1))) (fun _ hk => hk.2) (.int .i64 ((rd_T28 t628 x12_3).f2))) (fun _ hk => hk.2) (.int .i64 ((rd_T28 t628 x12_3).f3))) (fun _ hk => hk.2) (.int .i64 ((rd_T28 t628 x12_3).f4))) (fun _ h_ => h_.1))) (Kd.R_base ho0) hb); replace HO_621000 := aM (Kd.R_elder' (by (with_reducible repeat (first | apply Kd.R_alloc | apply Kd.R_drewN | apply Kd.R_drew)); exact (Kd.R_mono (Kd.R_far (p := ⟨gb636, 4, none⟩) (Kd.R_far (p := ⟨gb636, 3, none⟩) (Kd.R_far (p := ⟨gb636, 2, none⟩) (Kd.R_far (p := ⟨gb636, 1, none⟩) (Kd.R_far (p := ⟨gb636, 0, none⟩) (Kd.R_types HO_621000.out BK636.out (by decide)) (fun _ hk => hk.2) (.slice A635_0 ((rd_T28 t628 x12_3).f0).length c635_0)) (fun _ hk => hk.2) (.int .i64 ((rd_T28 t628 x12_3).f1))) (fun _ hk => hk.2) (.int .i64 ((rd_T28 t628 x12_3).f2))) (fun _ hk => hk.2) (.int .i64 ((rd_T28 t628 x12_3).f3))) (fun _ hk => hk.2) (.int .i64 ((rd_T28 t628 x12_3).f4))) (fun _ h_ => h_.1))) (Kd.R_base ho0) hb); replace BK620 := aM (blk_below (g := gb620) (o := .cells #[.slice Ao11 t613.length co11, .int .i64 t616, .int .i64 t617, .int .i64 t618, .int .i64 t619] 28 (0, 0)) (by (with_reducible repeat (first | apply kN | apply kD | apply kA)); refine blk_far ?_ NB620_636.out _; (with_reducible repeat (first | apply kN | apply kD | apply kA)); refine blk_far ?_ NB620_636.out _; (with_reducible repeat (first | apply kN | apply kD | apply kA)); refine blk_far ?_ NB620_636.out _; (with_reducible repeat (first | apply kN | apply kD | apply kA)); refine blk_far ?_ NB620_636.out _; (with_reducible repeat (first | apply kN | apply kD | apply kA)); refine blk_far ?_ NB620_636.out _; (with_reducible repeat (first | apply kN | apply kD | apply kA)); exact BK620.out) hb); replace BK626 := aM (blk_below (g := gb626) (o := .cells #[.int .i64 8, .int .i64 8, .int .i64 8, .int .i64 0, .slice Ao24 y623.length co24] 45 (0, 0)) (by (with_reducible repeat (first | apply kN | apply kD | apply kA)); refine blk_far ?_ NB626_636.out _; (with_reducible repeat (first | apply kN | apply kD | apply kA)); refine blk_far ?_ NB626_636.out _; (with_reducible repeat (first | apply kN | apply kD | apply kA)); refine blk_far ?_ NB626_636.out _; (with_reducible repeat (first | apply kN | apply kD | apply kA)); refine blk_far ?_ NB626_636.out _; (with_reducible repeat (first | apply kN | apply kD | apply kA)); refine blk_far ?_ NB626_636.out _; (with_reducible repeat (first | apply kN | apply kD | apply kA)); exact BK626.out) hb); replace HR635_0 := aM (Kd.C_below ((Kd.V_reads' (by (with_reducible repeat (first | apply Kd.V_alloc | apply Kd.V_drewN | apply Kd.V_drew)); exact (Kd.V_mono (Kd.V_far (p := ⟨gb636, 4, none⟩) (Kd.V_far (p := ⟨gb636, 3, none⟩) (Kd.V_far (p := ⟨gb636, 2, none⟩) (Kd.V_far (p := ⟨gb636, 1, none⟩) (Kd.V_far (p := ⟨gb636, 0, none⟩) (Kd.V_mono HL635_0.out (fun k_ hk => (⟨hk, hk.2⟩ : _ ∧ k_ ≠ gb636))) (fun _ hk => hk.2) (.slice A635_0 ((rd_T28 t628 x12_3).f0).length c635_0)) (fun _ hk => hk.2) (.int .i64 ((rd_T28 t628 x12_3).f1))) (fun _ hk => hk.2) (.int .i64 ((rd_T28 t628 x12_3).f2))) (fun _ hk => hk.2) (.int .i64 ((rd_T28 t628 x12_3).f3))) (fun _ hk => hk.2) (.int .i64 ((rd_T28 t628 x12_3).f4))) (fun _ h_ => h_.1)))).2.2) hb); replace HL635_0 := aM (Kd.V_elder' (by (with_reducible repeat (first | apply Kd.V_alloc | apply Kd.V_drewN | apply Kd.V_drew)); exact (Kd.V_mono (Kd.V_far (p := ⟨gb636, 4, none⟩) (Kd.V_far (p := ⟨gb636, 3, none⟩) (Kd.V_far (p := ⟨gb636, 2, none⟩) (Kd.V_far (p := ⟨gb636, 1, none⟩) (Kd.V_far (p := ⟨gb636, 0, none⟩) (Kd.V_mono HL635_0.out (fun k_ hk => (⟨hk, hk.2⟩ : _ ∧ k_ ≠ gb636))) (fun _ hk => hk.2) (.slice A635_0 ((rd_T28 t628 x12_3).f0).length c635_0)) (fun _ hk => hk.2) (.int .i64 ((rd_T28 t628 x12_3).f1))) (fun _ hk => hk.2) (.int .i64 ((rd_T28 t628 x12_3).f2))) (fun _ hk => hk.2) (.int .i64 ((rd_T28 t628 x12_3).f3))) (fun _ hk => hk.2) (.int .i64 ((rd_T28 t628 x12_3).f4))) (fun _ h_ => h_.1))) (Kd.R_base ho0) hb); replace BK636 := aM (blk_below (g := gb636) (o := .cells #[.slice A635_0 ((rd_T28 t628 x12_3).f0).length c635_0, .int .i64 ((rd_T28 t628 x12_3).f1), .int .i64 ((rd_T28 t628 x12_3).f2), .int .i64 ((rd_T28 t628 x12_3).f3), .int .i64 ((rd_T28 t628 x12_3).f4)] 28 (0, 0)) (by (with_reducible repeat (first | apply kN | apply kD | apply kA)); refine blk_put (cs := #[.slice A635_0 ((rd_T28 t628 x12_3).f0).length c635_0, .int .i64 ((rd_T28 t628 x12_3).f1), .int .i64 ((rd_T28 t628 x12_3).f2), .int .i64 ((rd_T28 t628 x12_3).f3), .int .i64 0]) ?_ 4 _ rfl; (with_reducible repeat (first | apply kN | apply kD | apply kA)); refine blk_put (cs := #[.slice A635_0 ((rd_T28 t628 x12_3).f0).length c635_0, .int .i64 ((rd_T28 t628 x12_3).f1), .int .i64 ((rd_T28 t628 x12_3).f2), .int .i64 0, .int .i64 0]) ?_ 3 _ rfl; (with_reducible repeat (first | apply kN | apply kD | apply kA)); refine blk_put (cs := #[.slice A635_0 ((rd_T28 t628 x12_3).f0).length c635_0, .int .i64 ((rd_T28 t628 x12_3).f1), .int .i64 0, .int .i64 0, .int .i64 0]) ?_ 2 _ rfl; (with_reducible repeat (first | apply kN | apply kD | apply kA)); refine blk_put (cs := #[.slice A635_0 ((rd_T28 t628 x12_3).f0).length c635_0, .int .i64 0, .int .i64 0, .int .i64 0, .int .i64 0]) ?_ 1 _ rfl; (with_reducible repeat (first | apply kN | apply kD | apply kA)); refine blk_put (cs := #[.slice none 0 0, .int .i64 0, .int .i64 0, .int .i64 0, .int .i64 0]) ?_ 0 _ rfl; (with_reducible repeat (first | apply kN | apply kD | apply kA)); exact BK636.out) hb); replace HB := cH HB hb; (try clear hb); (try clear hk); (try clear ho0); obtain ⟨hcz51_0, hcz51_1, hcz51_2, hcz51_3, hcz51_4⟩ := kk5 BK636; obtain ⟨hfz51_0, hfz51_1, hfz51_2, hfz51_3, hfz51_4⟩ := kg5 BK636) | ((with_reducible refine gate_callee (f := 16) rfl ?_); refine zGl (some 85) Try.func16 #[.slice Ao13 t610.length co13, .agg #[.slice A635_0 ((rd_T28 t628 x12_3).f0).length c635_0, .int .i64 ((rd_T28 t628 x12_3).f1), .int .i64 ((rd_T28 t628 x12_3).f2), .int .i64 ((rd_T28 t628 x12_3).f3), .int .i64 ((rd_T28 t628 x12_3).f4)]] ?_; (with_reducible refine (spec_FirstOf.calls k3 _ _ t610 _ _ ((rd_T28 t628 x12_3).f0) ((rd_T28 t628 x12_3).f1) ((rd_T28 t628 x12_3).f2) ((rd_T28 t628 x12_3).f3) ((rd_T28 t628 x12_3).f4) t640 _ ?side1 ?side2 ?side3 ?side4 A43.out).mono ?_); (case side1 => exact zC (Kd.R_reads' HO_5.out).2.2); (case side2 => exact (Kd.R_reads' HO_5.out).2.1); (case side3 => exact zC HR635_0.out); (case side4 => exact HC635_0.out); rintro e w52 ⟨v641, rfl, ho0, hb⟩; refine ⟨_, rfl, ?_⟩; replace HO_10 := aM (Kd.N_elder' (by (with_reducible repeat (first | apply Kd.N_alloc | apply Kd.N_drewN | apply Kd.N_drew)); exact HO_10.out) (Kd.R_base ho0) hb); replace HO_627004 := aM (Kd.R_below (by (with_reducible repeat (first | apply Kd.R_alloc | apply Kd.R_drewN | apply Kd.R_drew)); exact HO_627004.out) hb); replace HL635_0 := aM (Kd.V_elder' (by (with_reducible repeat (first | apply Kd.V_alloc | apply Kd.V_drewN | apply Kd.V_drew)); exact HL635_0.out) (Kd.R_base ho0) hb); have HO642 := aM (Kd.R_lower (Kd.R_new' (Kd.R_new' (Kd.R_new' (Kd.R_new' ho0 (Kd.R_lt (by (with_reducible repeat (first | apply Kd.R_alloc | apply Kd.R_drewN | apply Kd.R_drew)); exact HO_5.out))) (Kd.R_lt (by (with_reducible repeat (first | apply Kd.R_alloc | apply Kd.R_drewN | apply Kd.R_drew)); exact HO_11.out))) (Kd.R_lt (by (with_reducible repeat (first | apply Kd.R_alloc | apply Kd.R_drewN | apply Kd.R_drew)); exact HO_621000.out))) (Kd.R_lt (by (with_reducible repeat (first | apply Kd.R_alloc | apply Kd.R_drewN | apply Kd.R_drew)); exact HO639.out))) (below_size zH)); replace HO_5 := aM (Kd.R_elder' (by (with_reducible repeat (first | apply Kd.R_alloc | apply Kd.R_drewN | apply Kd.R_drew)); exact HO_5.out) (Kd.R_base ho0) hb); replace HO_11 := aM (Kd.R_elder' (by (with_reducible repeat (first | apply Kd.R_alloc | apply Kd.R_drewN | apply Kd.R_drew)); exact HO_11.out) (Kd.R_base ho0) hb); replace HO_621000 := aM (Kd.R_elder' (by (with_reducible repeat (first | apply Kd.R_alloc | apply Kd.R_drewN | apply Kd.R_drew)); exact HO_621000.out) (Kd.R_base ho0) hb); replace HO639 := aM (Kd.R_elder' (by (with_reducible repeat (first | apply Kd.R_alloc | apply Kd.R_drewN | apply Kd.R_drew)); exact HO639.out) (Kd.R_base ho0) hb); replace BK620 := cB BK620 hb; replace BK626 := cB BK626 hb; replace HR635_0 := cC HR635_0 hb; replace BK636 := cB BK636 hb; replace HB := cH HB hb; (try clear hb); (try clear ho0); obtain ⟨Ao53, co53, eo53⟩ := Kd.R_slice HO639.out; subst eo53; obtain ⟨Ao54, co54, eo54⟩ := Kd.R_slice HO642.out; subst eo54) | ((with_reducible refine gate_callee (f := 35) rfl ?_); refine zGl (some 86) Try.func35 #[.slice Ao53 t637.length co53, .slice Ao54 t640.length co54] ?_; (with_reducible refine (laws_sameInts.calls k3 _ _ t637 _ _ t640 true _ ?side1 ?side2 ?side3 ?side4 A44.out).mono ?_); (case side1 => exact zC (Kd.R_reads' HO639.out).2.2); (case side2 => exact (Kd.R_reads' HO639.out).2.1); (case side3 => exact zC (Kd.R_reads' HO642.out).2.2); (case side4 => exact (Kd.R_reads' HO642.out).2.1); rintro e w' ⟨rfl, ⟨nd, rfl⟩⟩; refine ⟨_, rfl, ?_⟩; obtain ⟨hcz55_0, hcz55_1, hcz55_2, hcz55_3, hcz55_4⟩ := kk5 BK636; obtain ⟨hfz55_0, hfz55_1, hfz55_2, hfz55_3, hfz55_4⟩ := kg5 BK636; obtain ⟨Ao56, co56, eo56⟩ := Kd.R_slice HO_11.out; subst eo56) | ((with_reducible refine gate_callee (f := 26) rfl ?_); refine zGl (some 91) Try.func26 #[.slice Ao56 x11_3.length co56, .agg #[.slice A635_0 ((rd_T28 t628 x12_3).f0).length c635_0, .int .i64 ((rd_T28 t628 x12_3).f1), .int .i64 ((rd_T28 t628 x12_3).f2), .int .i64 ((rd_T28 t628 x12_3).f3), .int .i64 ((rd_T28 t628 x12_3).f4)], .slice Ao53 t637.length co53] ?_; (with_reducible refine (impl_PutFirst.calls k3 _ _ x11_3 _ _ ((rd_T28 t628 x12_3).f0) ((rd_T28 t628 x12_3).f1) ((rd_T28 t628 x12_3).f2) ((rd_T28 t628 x12_3).f3) ((rd_T28 t628 x12_3).f4) _ _ t637 t644 _ ?side1 ?side2 ?side3 ?side4 ?side5 ?side6 A46.out).mono ?_); (case side1 => exact zC (Kd.R_reads' HO_11.out).2.2); (case side2 => exact (Kd.R_reads' HO_11.out).2.1); (case side3 => exact zC HR635_0.out); (case side4 => exact HC635_0.out); (case side5 => exact zC (Kd.R_reads' HO639.out).2.2); (case side6 => exact (Kd.R_reads' HO639.out).2.1); rintro e w57 ⟨v645, rfl, ho0, hb⟩; refine ⟨_, rfl, ?_⟩; replace HO_10 := aM (Kd.N_elder' (by (with_reducible repeat (first | apply Kd.N_alloc | apply Kd.N_drewN | apply Kd.N_drew)); exact HO_10.out) (Kd.R_base ho0) hb); replace HO_627004 := aM (Kd.R_below (by (with_reducible repeat (first | apply Kd.R_alloc | apply Kd.R_drewN | apply Kd.R_drew)); exact HO_627004.out) hb); replace HL635_0 := aM (Kd.V_elder' (by (with_reducible repeat (first | apply Kd.V_alloc | apply Kd.V_drewN | apply Kd.V_drew)); exact HL635_0.out) (Kd.R_base ho0) hb); have HO646 := aM (Kd.R_lower (Kd.R_new' (Kd.R_new' (Kd.R_new' (Kd.R_new' ho0 (Kd.R_lt (by (with_reducible repeat (first | apply Kd.R_alloc | apply Kd.R_drewN | apply Kd.R_drew)); exact HO_5.out))) (Kd.R_lt (by (with_reducible repeat (first | apply Kd.R_alloc | apply Kd.R_drewN | apply Kd.R_drew)); exact HO_11.out))) (Kd.R_lt (by (with_reducible repeat (first | apply Kd.R_alloc | apply Kd.R_drewN | apply Kd.R_drew)); exact HO_621000.out))) (Kd.R_lt (by (with_reducible repeat (first | apply Kd.R_alloc | apply Kd.R_drewN | apply Kd.R_drew)); exact HO639.out))) (below_size zH)); replace HO_5 := aM (Kd.R_elder' (by (with_reducible repeat (first | apply Kd.R_alloc | apply Kd.R_drewN | apply Kd.R_drew)); exact HO_5.out) (Kd.R_base ho0) hb); replace HO_11 := aM (Kd.R_elder' (by (with_reducible repeat (first | apply Kd.R_alloc | apply Kd.R_drewN | apply Kd.R_drew)); exact HO_11.out) (Kd.R_base ho0) hb); replace HO_621000 := aM (Kd.R_elder' (by (with_reducible repeat (first | apply Kd.R_alloc | apply Kd.R_drewN | apply Kd.R_drew)); exact HO_621000.out) (Kd.R_base ho0) hb); replace HO639 := aM (Kd.R_elder' (by (with_reducible repeat (first | apply Kd.R_alloc | apply Kd.R_drewN | apply Kd.R_drew)); exact HO639.out) (Kd.R_base ho0) hb); replace BK620 := cB BK620 hb; replace BK626 := cB BK626 hb; replace HR635_0 := cC HR635_0 hb; replace BK636 := cB BK636 hb; replace HB := cH HB hb; (try clear hb); (try clear ho0)))
                go_meet
                case rel => exact ⟨_, (t644), H', ⟨by have := HJ2.out; have := HK2.out; have := HK3.out; first | omega | exact Nat.le_refl _⟩, ⟨by (with_reducible repeat (first | apply Kd.R_alloc | apply Kd.R_drewN | apply Kd.R_drew)); exact Kd.R_mono HO_5.out (fun _ hk => ⟨hk.2, hk.1.1.1.2⟩)⟩, ⟨by (with_reducible repeat (first | apply Kd.N_alloc | apply Kd.N_drewN | apply Kd.N_drew)); exact Kd.N_mono HO_10.out (fun _ hk => ⟨hk.1.1.1.1.1, ⟨hk.2, ⟨hk.1.1.1.1.2.2.1, ⟨hk.1.1.1.1.2.2.2.1, ⟨hk.1.1.1.1.2.2.2.2.1, hk.1.1.1.1.2.2.2.2.2⟩⟩⟩⟩⟩)⟩, ⟨by (with_reducible repeat (first | apply Kd.R_alloc | apply Kd.R_drewN | apply Kd.R_drew)); exact Kd.R_mono HO646.out (fun _ hk => ⟨hk.1.1.1.2, hk.1.2⟩)⟩, ⟨by (with_reducible repeat (first | apply Kd.R_alloc | apply Kd.R_drewN | apply Kd.R_drew)); exact Kd.R_mono HO_621000.out (fun _ hk => ⟨hk.1.1.1.1, hk.2⟩)⟩, ⟨by (with_reducible repeat (first | apply Kd.R_alloc | apply Kd.R_drewN | apply Kd.R_drew)); exact HO_627004.out⟩, ⟨zK BK620⟩, ⟨zK BK626⟩, ⟨zC HR635_0.out⟩, ⟨zH⟩⟩
               ·replace c45 := Bool.eq_false_iff.mpr c45
                subst c45
                replace H := iF H
                exact noArm H HTRUE_.out
              ·rw [if_neg c41] at H
               have c41b0 : (((rd_T28 t628 x12_3).f3) == 0) = false := beq_eq_false_iff_ne.mpr c41
               have c41b1 : (((rd_T28 t628 x12_3).f3) != 0) = true := bne_iff_ne.mpr c41
               (first | rw [c41b0] | (simp only [i64_w, i32_w]; rw [c41b0]) | skip)
               obtain ⟨t647, A58, H⟩ := oH H
               obtain ⟨t650, A59, H⟩ := oH H
               obtain ⟨t653, A60, H⟩ := oH H
               by_cases c61 : t653 = true
               ·subst c61
                replace H := iT H
                obtain ⟨t654, A62, H⟩ := oH H
                have H' := aM H
                clear H
                have hnb63 := NB636_620.out
                have hnc63 := NB620_636.out
                have hnb64 := NB636_626.out
                have hnc64 := NB626_636.out
                obtain ⟨hcz65_0, hcz65_1, hcz65_2, hcz65_3, hcz65_4⟩ := kk5 BK636
                obtain ⟨hfz65_0, hfz65_1, hfz65_2, hfz65_3, hfz65_4⟩ := kg5 BK636
                go_wp2_with (first | ((with_reducible refine gate_callee (f := 28) rfl ?_); refine zGl (some 94) Try.func28 #[.slice Ao13 t610.length co13, .agg #[.slice A635_0 ((rd_T28 t628 x12_3).f0).length c635_0, .int .i64 ((rd_T28 t628 x12_3).f1), .int .i64 ((rd_T28 t628 x12_3).f2), .int .i64 ((rd_T28 t628 x12_3).f3), .int .i64 ((rd_T28 t628 x12_3).f4)]] ?_; (with_reducible refine (impl_RefineOf.calls k3 _ _ t610 _ _ ((rd_T28 t628 x12_3).f0) ((rd_T28 t628 x12_3).f1) ((rd_T28 t628 x12_3).f2) ((rd_T28 t628 x12_3).f3) ((rd_T28 t628 x12_3).f4) t647 _ ?side1 ?side2 ?side3 ?side4 A58.out).mono ?_); (case side1 => refine (Kd.R_reads' (e := 3) (base := w.heap.size) (ok := fun k_ => (some k_ ≠ (u11 : Value).ownBlock ∧ some k_ ≠ (.slice Ao11 t613.length co11 : Value).ownBlock)) (n := t610.length) (c := co13) ?_).2.2; exact (by (with_reducible repeat (first | apply Kd.R_alloc | apply Kd.R_drewN | apply Kd.R_drew)); exact (Kd.R_mono (Kd.R_far (p := ⟨gb636, 4, none⟩) (Kd.R_far (p := ⟨gb636, 3, none⟩) (Kd.R_far (p := ⟨gb636, 2, none⟩) (Kd.R_far (p := ⟨gb636, 1, none⟩) (Kd.R_far (p := ⟨gb636, 0, none⟩) (Kd.R_types HO_5.out BK636.out (by decide)) (fun _ hk => hk.2) (.slice A635_0 ((rd_T28 t628 x12_3).f0).length c635_0)) (fun _ hk => hk.2) (.int .i64 ((rd_T28 t628 x12_3).f1))) (fun _ hk => hk.2) (.int .i64 ((rd_T28 t628 x12_3).f2))) (fun _ hk => hk.2) (.int .i64 ((rd_T28 t628 x12_3).f3))) (fun _ hk => hk.2) (.int .i64 ((rd_T28 t628 x12_3).f4))) (fun _ h_ => h_.1)))); (case side2 => exact (Kd.R_reads' HO_5.out).2.1); (case side3 => repeat (first | exact ((Kd.V_reads' (by (with_reducible repeat (first | apply Kd.V_alloc | apply Kd.V_drewN | apply Kd.V_drew)); exact (Kd.V_mono (Kd.V_far (p := ⟨gb636, 4, none⟩) (Kd.V_far (p := ⟨gb636, 3, none⟩) (Kd.V_far (p := ⟨gb636, 2, none⟩) (Kd.V_far (p := ⟨gb636, 1, none⟩) (Kd.V_far (p := ⟨gb636, 0, none⟩) (Kd.V_mono HL635_0.out (fun k_ hk => (⟨hk, hk.2⟩ : _ ∧ k_ ≠ gb636))) (fun _ hk => hk.2) (.slice A635_0 ((rd_T28 t628 x12_3).f0).length c635_0)) (fun _ hk => hk.2) (.int .i64 ((rd_T28 t628 x12_3).f1))) (fun _ hk => hk.2) (.int .i64 ((rd_T28 t628 x12_3).f2))) (fun _ hk => hk.2) (.int .i64 ((rd_T28 t628 x12_3).f3))) (fun _ hk => hk.2) (.int .i64 ((rd_T28 t628 x12_3).f4))) (fun _ h_ => h_.1)))).2.2) | (with_reducible first | refine Kd.C_alloc ?_ _ | refine Kd.C_drewN ?_ _ | refine Kd.C_drew ?_))); (case side4 => exact HC635_0.out); rintro e w66 ⟨v648, rfl, ho0, hb⟩; refine ⟨_, rfl, ?_⟩; replace HO_10 := aM (Kd.N_elder' (by (with_reducible repeat (first | apply Kd.N_alloc | apply Kd.N_drewN | apply Kd.N_drew)); exact (Kd.N_mono (Kd.N_far (p := ⟨gb636, 4, none⟩) (Kd.N_far (p := ⟨gb636, 3, none⟩) (Kd.N_far (p := ⟨gb636, 2, none⟩) (Kd.N_far (p := ⟨gb636, 1, none⟩) (Kd.N_far (p := ⟨gb636, 0, none⟩) (Kd.N_mono HO_10.out (fun k_ hk => (⟨hk, hk.2⟩ : _ ∧ k_ ≠ gb636))) (fun _ hk => hk.2) (.slice A635_0 ((rd_T28 t628 x12_3).f0).length c635_0)) (fun _ hk => hk.2) (.int .i64 ((rd_T28 t628 x12_3).f1))) (fun _ hk => hk.2) (.int .i64 ((rd_T28 t628 x12_3).f2))) (fun _ hk => hk.2) (.int .i64 ((rd_T28 t628 x12_3).f3))) (fun _ hk => hk.2) (.int .i64 ((rd_T28 t628 x12_3).f4))) (fun _ h_ => h_.1))) (Kd.R_base ho0) hb); replace HO_627004 := aM (Kd.R_below (by (with_reducible repeat (first | apply Kd.R_alloc | apply Kd.R_drewN | apply Kd.R_drew)); exact (Kd.R_mono (Kd.R_far (p := ⟨gb636, 4, none⟩) (Kd.R_far (p := ⟨gb636, 3, none⟩) (Kd.R_far (p := ⟨gb636, 2, none⟩) (Kd.R_far (p := ⟨gb636, 1, none⟩) (Kd.R_far (p := ⟨gb636, 0, none⟩) (Kd.R_types HO_627004.out BK636.out (by decide)) (fun _ hk => hk.2) (.slice A635_0 ((rd_T28 t628 x12_3).f0).length c635_0)) (fun _ hk => hk.2) (.int .i64 ((rd_T28 t628 x12_3).f1))) (fun _ hk => hk.2) (.int .i64 ((rd_T28 t628 x12_3).f2))) (fun _ hk => hk.2) (.int .i64 ((rd_T28 t628 x12_3).f3))) (fun _ hk => hk.2) (.int .i64 ((rd_T28 t628 x12_3).f4))) (fun _ h_ => h_.1))) hb); have HO649 := aM (Kd.R_lower (Kd.R_new' (Kd.R_new' (Kd.R_new' ho0 (Kd.R_lt (by (with_reducible repeat (first | apply Kd.R_alloc | apply Kd.R_drewN | apply Kd.R_drew)); exact (Kd.R_mono (Kd.R_far (p := ⟨gb636, 4, none⟩) (Kd.R_far (p := ⟨gb636, 3, none⟩) (Kd.R_far (p := ⟨gb636, 2, none⟩) (Kd.R_far (p := ⟨gb636, 1, none⟩) (Kd.R_far (p := ⟨gb636, 0, none⟩) (Kd.R_types HO_5.out BK636.out (by decide)) (fun _ hk => hk.2) (.slice A635_0 ((rd_T28 t628 x12_3).f0).length c635_0)) (fun _ hk => hk.2) (.int .i64 ((rd_T28 t628 x12_3).f1))) (fun _ hk => hk.2) (.int .i64 ((rd_T28 t628 x12_3).f2))) (fun _ hk => hk.2) (.int .i64 ((rd_T28 t628 x12_3).f3))) (fun _ hk => hk.2) (.int .i64 ((rd_T28 t628 x12_3).f4))) (fun _ h_ => h_.1))))) (Kd.R_lt (by (with_reducible repeat (first | apply Kd.R_alloc | apply Kd.R_drewN | apply Kd.R_drew)); exact (Kd.R_mono (Kd.R_far (p := ⟨gb636, 4, none⟩) (Kd.R_far (p := ⟨gb636, 3, none⟩) (Kd.R_far (p := ⟨gb636, 2, none⟩) (Kd.R_far (p := ⟨gb636, 1, none⟩) (Kd.R_far (p := ⟨gb636, 0, none⟩) (Kd.R_types HO_11.out BK636.out (by decide)) (fun _ hk => hk.2) (.slice A635_0 ((rd_T28 t628 x12_3).f0).length c635_0)) (fun _ hk => hk.2) (.int .i64 ((rd_T28 t628 x12_3).f1))) (fun _ hk => hk.2) (.int .i64 ((rd_T28 t628 x12_3).f2))) (fun _ hk => hk.2) (.int .i64 ((rd_T28 t628 x12_3).f3))) (fun _ hk => hk.2) (.int .i64 ((rd_T28 t628 x12_3).f4))) (fun _ h_ => h_.1))))) (Kd.R_lt (by (with_reducible repeat (first | apply Kd.R_alloc | apply Kd.R_drewN | apply Kd.R_drew)); exact (Kd.R_mono (Kd.R_far (p := ⟨gb636, 4, none⟩) (Kd.R_far (p := ⟨gb636, 3, none⟩) (Kd.R_far (p := ⟨gb636, 2, none⟩) (Kd.R_far (p := ⟨gb636, 1, none⟩) (Kd.R_far (p := ⟨gb636, 0, none⟩) (Kd.R_types HO_621000.out BK636.out (by decide)) (fun _ hk => hk.2) (.slice A635_0 ((rd_T28 t628 x12_3).f0).length c635_0)) (fun _ hk => hk.2) (.int .i64 ((rd_T28 t628 x12_3).f1))) (fun _ hk => hk.2) (.int .i64 ((rd_T28 t628 x12_3).f2))) (fun _ hk => hk.2) (.int .i64 ((rd_T28 t628 x12_3).f3))) (fun _ hk => hk.2) (.int .i64 ((rd_T28 t628 x12_3).f4))) (fun _ h_ => h_.1))))) (below_size zH)); replace HO_5 := aM (Kd.R_elder' (by (with_reducible repeat (first | apply Kd.R_alloc | apply Kd.R_drewN | apply Kd.R_drew)); exact (Kd.R_mono (Kd.R_far (p := ⟨gb636, 4, none⟩) (Kd.R_far (p := ⟨gb636, 3, none⟩) (Kd.R_far (p := ⟨gb636, 2, none⟩) (Kd.R_far (p := ⟨gb636, 1, none⟩) (Kd.R_far (p := ⟨gb636, 0, none⟩) (Kd.R_types HO_5.out BK636.out (by decide)) (fun _ hk => hk.2) (.slice A635_0 ((rd_T28 t628 x12_3).f0).length c635_0)) (fun _ hk => hk.2) (.int .i64 ((rd_T28 t628 x12_3).f1))) (fun _ hk => hk.2) (.int .i64 ((rd_T28 t628 x12_3).f2))) (fun _ hk => hk.2) (.int .i64 ((rd_T28 t628 x12_3).f3))) (fun _ hk => hk.2) (.int .i64 ((rd_T28 t628 x12_3).f4))) (fun _ h_ => h_.1))) (Kd.R_base ho0) hb); replace HO_11 := aM (Kd.R_elder' (by (with_reducible repeat (first | apply Kd.R_alloc | apply Kd.R_drewN | apply Kd.R_drew)); exact (Kd.R_mono (Kd.R_far (p := ⟨gb636, 4, none⟩) (Kd.R_far (p := ⟨gb636, 3, none⟩) (Kd.R_far (p := ⟨gb636, 2, none⟩) (Kd.R_far (p := ⟨gb636, 1, none⟩) (Kd.R_far (p := ⟨gb636, 0, none⟩) (Kd.R_types HO_11.out BK636.out (by decide)) (fun _ hk => hk.2) (.slice A635_0 ((rd_T28 t628 x12_3).f0).length c635_0)) (fun _ hk => hk.2) (.int .i64 ((rd_T28 t628 x12_3).f1))) (fun _ hk => hk.2) (.int .i64 ((rd_T28 t628 x12_3).f2))) (fun _ hk => hk.2) (.int .i64 ((rd_T28 t628 x12_3).f3))) (fun _ hk => hk.2) (.int .i64 ((rd_T28 t628 x12_3).f4))) (fun _ h_ => h_.1))) (Kd.R_base ho0) hb); replace HO_621000 := aM (Kd.R_elder' (by (with_reducible repeat (first | apply Kd.R_alloc | apply Kd.R_drewN | apply Kd.R_drew)); exact (Kd.R_mono (Kd.R_far (p := ⟨gb636, 4, none⟩) (Kd.R_far (p := ⟨gb636, 3, none⟩) (Kd.R_far (p := ⟨gb636, 2, none⟩) (Kd.R_far (p := ⟨gb636, 1, none⟩) (Kd.R_far (p := ⟨gb636, 0, none⟩) (Kd.R_types HO_621000.out BK636.out (by decide)) (fun _ hk => hk.2) (.slice A635_0 ((rd_T28 t628 x12_3).f0).length c635_0)) (fun _ hk => hk.2) (.int .i64 ((rd_T28 t628 x12_3).f1))) (fun _ hk => hk.2) (.int .i64 ((rd_T28 t628 x12_3).f2))) (fun _ hk => hk.2) (.int .i64 ((rd_T28 t628 x12_3).f3))) (fun _ hk => hk.2) (.int .i64 ((rd_T28 t628 x12_3).f4))) (fun _ h_ => h_.1))) (Kd.R_base ho0) hb); replace BK620 := aM (blk_below (g := gb620) (o := .cells #[.slice Ao11 t613.length co11, .int .i64 t616, .int .i64 t617, .int .i64 t618, .int .i64 t619] 28 (0, 0)) (by (with_reducible repeat (first | apply kN | apply kD | apply kA)); refine blk_far ?_ NB620_636.out _; (with_reducible repeat (first | apply kN | apply kD | apply kA)); refine blk_far ?_ NB620_636.out _; (with_reducible repeat (first | apply kN | apply kD | apply kA)); refine blk_far ?_ NB620_636.out _; (with_reducible repeat (first | apply kN | apply kD | apply kA)); refine blk_far ?_ NB620_636.out _; (with_reducible repeat (first | apply kN | apply kD | apply kA)); refine blk_far ?_ NB620_636.out _; (with_reducible repeat (first | apply kN | apply kD | apply kA)); exact BK620.out) hb); replace BK626 := aM (blk_below (g := gb626) (o := .cells #[.int .i64 8, .int .i64 8, .int .i64 8, .int .i64 0, .slice Ao24 y623.length co24] 45 (0, 0)) (by (with_reducible repeat (first | apply kN | apply kD | apply kA)); refine blk_far ?_ NB626_636.out _; (with_reducible repeat (first | apply kN | apply kD | apply kA)); refine blk_far ?_ NB626_636.out _; (with_reducible repeat (first | apply kN | apply kD | apply kA)); refine blk_far ?_ NB626_636.out _; (with_reducible repeat (first | apply kN | apply kD | apply kA)); refine blk_far ?_ NB626_636.out _; (with_reducible repeat (first | apply kN | apply kD | apply kA)); refine blk_far ?_ NB626_636.out _; (with_reducible repeat (first | apply kN | apply kD | apply kA)); exact BK626.out) hb); replace HR635_0 := aM (Kd.C_below ((Kd.V_reads' (by (with_reducible repeat (first | apply Kd.V_alloc | apply Kd.V_drewN | apply Kd.V_drew)); exact (Kd.V_mono (Kd.V_far (p := ⟨gb636, 4, none⟩) (Kd.V_far (p := ⟨gb636, 3, none⟩) (Kd.V_far (p := ⟨gb636, 2, none⟩) (Kd.V_far (p := ⟨gb636, 1, none⟩) (Kd.V_far (p := ⟨gb636, 0, none⟩) (Kd.V_mono HL635_0.out (fun k_ hk => (⟨hk, hk.2⟩ : _ ∧ k_ ≠ gb636))) (fun _ hk => hk.2) (.slice A635_0 ((rd_T28 t628 x12_3).f0).length c635_0)) (fun _ hk => hk.2) (.int .i64 ((rd_T28 t628 x12_3).f1))) (fun _ hk => hk.2) (.int .i64 ((rd_T28 t628 x12_3).f2))) (fun _ hk => hk.2) (.int .i64 ((rd_T28 t628 x12_3).f3))) (fun _ hk => hk.2) (.int .i64 ((rd_T28 t628 x12_3).f4))) (fun _ h_ => h_.1)))).2.2) hb); replace HL635_0 := aM (Kd.V_elder' (by (with_reducible repeat (first | apply Kd.V_alloc | apply Kd.V_drewN | apply Kd.V_drew)); exact (Kd.V_mono (Kd.V_far (p := ⟨gb636, 4, none⟩) (Kd.V_far (p := ⟨gb636, 3, none⟩) (Kd.V_far (p := ⟨gb636, 2, none⟩) (Kd.V_far (p := ⟨gb636, 1, none⟩) (Kd.V_far (p := ⟨gb636, 0, none⟩) (Kd.V_mono HL635_0.out (fun k_ hk => (⟨hk, hk.2⟩ : _ ∧ k_ ≠ gb636))) (fun _ hk => hk.2) (.slice A635_0 ((rd_T28 t628 x12_3).f0).length c635_0)) (fun _ hk => hk.2) (.int .i64 ((rd_T28 t628 x12_3).f1))) (fun _ hk => hk.2) (.int .i64 ((rd_T28 t628 x12_3).f2))) (fun _ hk => hk.2) (.int .i64 ((rd_T28 t628 x12_3).f3))) (fun _ hk => hk.2) (.int .i64 ((rd_T28 t628 x12_3).f4))) (fun _ h_ => h_.1))) (Kd.R_base ho0) hb); replace BK636 := aM (blk_below (g := gb636) (o := .cells #[.slice A635_0 ((rd_T28 t628 x12_3).f0).length c635_0, .int .i64 ((rd_T28 t628 x12_3).f1), .int .i64 ((rd_T28 t628 x12_3).f2), .int .i64 ((rd_T28 t628 x12_3).f3), .int .i64 ((rd_T28 t628 x12_3).f4)] 28 (0, 0)) (by (with_reducible repeat (first | apply kN | apply kD | apply kA)); refine blk_put (cs := #[.slice A635_0 ((rd_T28 t628 x12_3).f0).length c635_0, .int .i64 ((rd_T28 t628 x12_3).f1), .int .i64 ((rd_T28 t628 x12_3).f2), .int .i64 ((rd_T28 t628 x12_3).f3), .int .i64 0]) ?_ 4 _ rfl; (with_reducible repeat (first | apply kN | apply kD | apply kA)); refine blk_put (cs := #[.slice A635_0 ((rd_T28 t628 x12_3).f0).length c635_0, .int .i64 ((rd_T28 t628 x12_3).f1), .int .i64 ((rd_T28 t628 x12_3).f2), .int .i64 0, .int .i64 0]) ?_ 3 _ rfl; (with_reducible repeat (first | apply kN | apply kD | apply kA)); refine blk_put (cs := #[.slice A635_0 ((rd_T28 t628 x12_3).f0).length c635_0, .int .i64 ((rd_T28 t628 x12_3).f1), .int .i64 0, .int .i64 0, .int .i64 0]) ?_ 2 _ rfl; (with_reducible repeat (first | apply kN | apply kD | apply kA)); refine blk_put (cs := #[.slice A635_0 ((rd_T28 t628 x12_3).f0).length c635_0, .int .i64 0, .int .i64 0, .int .i64 0, .int .i64 0]) ?_ 1 _ rfl; (with_reducible repeat (first | apply kN | apply kD | apply kA)); refine blk_put (cs := #[.slice none 0 0, .int .i64 0, .int .i64 0, .int .i64 0, .int .i64 0]) ?_ 0 _ rfl; (with_reducible repeat (first | apply kN | apply kD | apply kA)); exact BK636.out) hb); replace HB := cH HB hb; (try clear hb); (try clear hk); (try clear ho0); obtain ⟨hcz67_0, hcz67_1, hcz67_2, hcz67_3, hcz67_4⟩ := kk5 BK636; obtain ⟨hfz67_0, hfz67_1, hfz67_2, hfz67_3, hfz67_4⟩ := kg5 BK636) | ((with_reducible refine gate_callee (f := 27) rfl ?_); refine zGl (some 98) Try.func27 #[.slice Ao13 t610.length co13, .agg #[.slice A635_0 ((rd_T28 t628 x12_3).f0).length c635_0, .int .i64 ((rd_T28 t628 x12_3).f1), .int .i64 ((rd_T28 t628 x12_3).f2), .int .i64 ((rd_T28 t628 x12_3).f3), .int .i64 ((rd_T28 t628 x12_3).f4)]] ?_; (with_reducible refine (spec_RefineOf.calls k3 _ _ t610 _ _ ((rd_T28 t628 x12_3).f0) ((rd_T28 t628 x12_3).f1) ((rd_T28 t628 x12_3).f2) ((rd_T28 t628 x12_3).f3) ((rd_T28 t628 x12_3).f4) t650 _ ?side1 ?side2 ?side3 ?side4 A59.out).mono ?_); (case side1 => exact zC (Kd.R_reads' HO_5.out).2.2); (case side2 => exact (Kd.R_reads' HO_5.out).2.1); (case side3 => exact zC HR635_0.out); (case side4 => exact HC635_0.out); rintro e w68 ⟨v651, rfl, ho0, hb⟩; refine ⟨_, rfl, ?_⟩; replace HO_10 := aM (Kd.N_elder' (by (with_reducible repeat (first | apply Kd.N_alloc | apply Kd.N_drewN | apply Kd.N_drew)); exact HO_10.out) (Kd.R_base ho0) hb); replace HO_627004 := aM (Kd.R_below (by (with_reducible repeat (first | apply Kd.R_alloc | apply Kd.R_drewN | apply Kd.R_drew)); exact HO_627004.out) hb); replace HL635_0 := aM (Kd.V_elder' (by (with_reducible repeat (first | apply Kd.V_alloc | apply Kd.V_drewN | apply Kd.V_drew)); exact HL635_0.out) (Kd.R_base ho0) hb); have HO652 := aM (Kd.R_lower (Kd.R_new' (Kd.R_new' (Kd.R_new' (Kd.R_new' ho0 (Kd.R_lt (by (with_reducible repeat (first | apply Kd.R_alloc | apply Kd.R_drewN | apply Kd.R_drew)); exact HO_5.out))) (Kd.R_lt (by (with_reducible repeat (first | apply Kd.R_alloc | apply Kd.R_drewN | apply Kd.R_drew)); exact HO_11.out))) (Kd.R_lt (by (with_reducible repeat (first | apply Kd.R_alloc | apply Kd.R_drewN | apply Kd.R_drew)); exact HO_621000.out))) (Kd.R_lt (by (with_reducible repeat (first | apply Kd.R_alloc | apply Kd.R_drewN | apply Kd.R_drew)); exact HO649.out))) (below_size zH)); replace HO_5 := aM (Kd.R_elder' (by (with_reducible repeat (first | apply Kd.R_alloc | apply Kd.R_drewN | apply Kd.R_drew)); exact HO_5.out) (Kd.R_base ho0) hb); replace HO_11 := aM (Kd.R_elder' (by (with_reducible repeat (first | apply Kd.R_alloc | apply Kd.R_drewN | apply Kd.R_drew)); exact HO_11.out) (Kd.R_base ho0) hb); replace HO_621000 := aM (Kd.R_elder' (by (with_reducible repeat (first | apply Kd.R_alloc | apply Kd.R_drewN | apply Kd.R_drew)); exact HO_621000.out) (Kd.R_base ho0) hb); replace HO649 := aM (Kd.R_elder' (by (with_reducible repeat (first | apply Kd.R_alloc | apply Kd.R_drewN | apply Kd.R_drew)); exact HO649.out) (Kd.R_base ho0) hb); replace BK620 := cB BK620 hb; replace BK626 := cB BK626 hb; replace HR635_0 := cC HR635_0 hb; replace BK636 := cB BK636 hb; replace HB := cH HB hb; (try clear hb); (try clear ho0); obtain ⟨Ao69, co69, eo69⟩ := Kd.R_slice HO649.out; subst eo69; obtain ⟨Ao70, co70, eo70⟩ := Kd.R_slice HO652.out; subst eo70) | ((with_reducible refine gate_callee (f := 35) rfl ?_); refine zGl (some 99) Try.func35 #[.slice Ao69 t647.length co69, .slice Ao70 t650.length co70] ?_; (with_reducible refine (laws_sameInts.calls k3 _ _ t647 _ _ t650 true _ ?side1 ?side2 ?side3 ?side4 A60.out).mono ?_); (case side1 => exact zC (Kd.R_reads' HO649.out).2.2); (case side2 => exact (Kd.R_reads' HO649.out).2.1); (case side3 => exact zC (Kd.R_reads' HO652.out).2.2); (case side4 => exact (Kd.R_reads' HO652.out).2.1); rintro e w' ⟨rfl, ⟨nd, rfl⟩⟩; refine ⟨_, rfl, ?_⟩; obtain ⟨hcz71_0, hcz71_1, hcz71_2, hcz71_3, hcz71_4⟩ := kk5 BK636; obtain ⟨hfz71_0, hfz71_1, hfz71_2, hfz71_3, hfz71_4⟩ := kg5 BK636; obtain ⟨Ao72, co72, eo72⟩ := Kd.R_slice HO_11.out; subst eo72) | ((with_reducible refine gate_callee (f := 30) rfl ?_); refine zGl (some 104) Try.func30 #[.slice Ao72 x11_3.length co72, .agg #[.slice A635_0 ((rd_T28 t628 x12_3).f0).length c635_0, .int .i64 ((rd_T28 t628 x12_3).f1), .int .i64 ((rd_T28 t628 x12_3).f2), .int .i64 ((rd_T28 t628 x12_3).f3), .int .i64 ((rd_T28 t628 x12_3).f4)], .slice Ao69 t647.length co69] ?_; (with_reducible refine (impl_PutRefine.calls k3 _ _ x11_3 _ _ ((rd_T28 t628 x12_3).f0) ((rd_T28 t628 x12_3).f1) ((rd_T28 t628 x12_3).f2) ((rd_T28 t628 x12_3).f3) ((rd_T28 t628 x12_3).f4) _ _ t647 t654 _ ?side1 ?side2 ?side3 ?side4 ?side5 ?side6 A62.out).mono ?_); (case side1 => exact zC (Kd.R_reads' HO_11.out).2.2); (case side2 => exact (Kd.R_reads' HO_11.out).2.1); (case side3 => exact zC HR635_0.out); (case side4 => exact HC635_0.out); (case side5 => exact zC (Kd.R_reads' HO649.out).2.2); (case side6 => exact (Kd.R_reads' HO649.out).2.1); rintro e w73 ⟨v655, rfl, ho0, hb⟩; refine ⟨_, rfl, ?_⟩; replace HO_10 := aM (Kd.N_elder' (by (with_reducible repeat (first | apply Kd.N_alloc | apply Kd.N_drewN | apply Kd.N_drew)); exact HO_10.out) (Kd.R_base ho0) hb); replace HO_627004 := aM (Kd.R_below (by (with_reducible repeat (first | apply Kd.R_alloc | apply Kd.R_drewN | apply Kd.R_drew)); exact HO_627004.out) hb); replace HL635_0 := aM (Kd.V_elder' (by (with_reducible repeat (first | apply Kd.V_alloc | apply Kd.V_drewN | apply Kd.V_drew)); exact HL635_0.out) (Kd.R_base ho0) hb); have HO656 := aM (Kd.R_lower (Kd.R_new' (Kd.R_new' (Kd.R_new' (Kd.R_new' ho0 (Kd.R_lt (by (with_reducible repeat (first | apply Kd.R_alloc | apply Kd.R_drewN | apply Kd.R_drew)); exact HO_5.out))) (Kd.R_lt (by (with_reducible repeat (first | apply Kd.R_alloc | apply Kd.R_drewN | apply Kd.R_drew)); exact HO_11.out))) (Kd.R_lt (by (with_reducible repeat (first | apply Kd.R_alloc | apply Kd.R_drewN | apply Kd.R_drew)); exact HO_621000.out))) (Kd.R_lt (by (with_reducible repeat (first | apply Kd.R_alloc | apply Kd.R_drewN | apply Kd.R_drew)); exact HO649.out))) (below_size zH)); replace HO_5 := aM (Kd.R_elder' (by (with_reducible repeat (first | apply Kd.R_alloc | apply Kd.R_drewN | apply Kd.R_drew)); exact HO_5.out) (Kd.R_base ho0) hb); replace HO_11 := aM (Kd.R_elder' (by (with_reducible repeat (first | apply Kd.R_alloc | apply Kd.R_drewN | apply Kd.R_drew)); exact HO_11.out) (Kd.R_base ho0) hb); replace HO_621000 := aM (Kd.R_elder' (by (with_reducible repeat (first | apply Kd.R_alloc | apply Kd.R_drewN | apply Kd.R_drew)); exact HO_621000.out) (Kd.R_base ho0) hb); replace HO649 := aM (Kd.R_elder' (by (with_reducible repeat (first | apply Kd.R_alloc | apply Kd.R_drewN | apply Kd.R_drew)); exact HO649.out) (Kd.R_base ho0) hb); replace BK620 := cB BK620 hb; replace BK626 := cB BK626 hb; replace HR635_0 := cC HR635_0 hb; replace BK636 := cB BK636 hb; replace HB := cH HB hb; (try clear hb); (try clear ho0)))
                go_meet
                case rel => exact ⟨_, (t654), H', ⟨by have := HJ2.out; have := HK2.out; have := HK3.out; first | omega | exact Nat.le_refl _⟩, ⟨by (with_reducible repeat (first | apply Kd.R_alloc | apply Kd.R_drewN | apply Kd.R_drew)); exact Kd.R_mono HO_5.out (fun _ hk => ⟨hk.2, hk.1.1.1.2⟩)⟩, ⟨by (with_reducible repeat (first | apply Kd.N_alloc | apply Kd.N_drewN | apply Kd.N_drew)); exact Kd.N_mono HO_10.out (fun _ hk => ⟨hk.1.1.1.1.1, ⟨hk.2, ⟨hk.1.1.1.1.2.2.1, ⟨hk.1.1.1.1.2.2.2.1, ⟨hk.1.1.1.1.2.2.2.2.1, hk.1.1.1.1.2.2.2.2.2⟩⟩⟩⟩⟩)⟩, ⟨by (with_reducible repeat (first | apply Kd.R_alloc | apply Kd.R_drewN | apply Kd.R_drew)); exact Kd.R_mono HO656.out (fun _ hk => ⟨hk.1.1.1.2, hk.1.2⟩)⟩, ⟨by (with_reducible repeat (first | apply Kd.R_alloc | apply Kd.R_drewN | apply Kd.R_drew)); exact Kd.R_mono HO_621000.out (fun _ hk => ⟨hk.1.1.1.1, hk.2⟩)⟩, ⟨by (with_reducible repeat (first | apply Kd.R_alloc | apply Kd.R_drewN | apply Kd.R_drew)); exact HO_627004.out⟩, ⟨zK BK620⟩, ⟨zK BK626⟩, ⟨zC HR635_0.out⟩, ⟨zH⟩⟩
               ·replace c61 := Bool.eq_false_iff.mpr c61
                subst c61
                replace H := iF H
                exact noArm H HTRUE_.out
             case rest =>
              clear HC35
              (try clear c33b0); (try clear c34b0); (try clear hcz40_0); (try clear hcz40_1); (try clear hcz40_2); (try clear hcz40_3); (try clear hcz40_4); (try clear hfz40_0); (try clear hfz40_1); (try clear hfz40_2); (try clear hfz40_3); (try clear hfz40_4); (try clear hx635_0); (try clear hx635_1); (try clear hx635_2); (try clear hx635_3); (try clear hx635_4); (try clear p635); (try clear q635)
              obtain ⟨kq, x11_34, HA, HJ34, HO_5, HO_10, HO_11, HO_621000, HO_627004, BK620, BK626, HR635_0, HB⟩ := hcut
              cases kq with
              | zero => exact absurd HA.out (by simp [laws_FnPasses.j3])
              | succ kj34 =>
               have H := HA.out
               clear HA
               simp only [laws_FnPasses.j3] at H
               obtain ⟨ji74, hji74⟩ : ∃ j_ : Int, (wrap64 (x12_3 + 1)) = j_ := ⟨_, rfl⟩
               replace H : (if 0 ≤ (ji74) then (if (ji74) ≤ (t628.length : Int) then ((spec_LeftOf.f kj34 8 8 8 0 y623 (t628.take ((ji74) : Int).toNat)).bind fun t661 => ((spec_ToZig.f kj34 x11_34).bind fun t664 => ((spec_ToZig.f kj34 t610).bind fun t667 => (laws_FnPasses.l2 kj34 t610 t628 x11_34 x12_3 t661 t664 t667 0 8 8 8 0 y623)))) else (none)) else (none)) = some r := by first | (rw [hji74] at H; exact H) | (simp only [hji74] at H ⊢; exact H)
               have hji74w : (IntKind.i64.wrap (x12_3 + 1)) = ji74 := (i64_w _).trans hji74
               by_cases c75 : 0 ≤ (ji74)
               ·rw [if_pos c75] at H
                have c75b0 := eq_true c75
                have c75b1 : decide (0 ≤ (ji74)) = true := decide_eq_true c75
                clear c75
                by_cases c76 : (ji74) ≤ (t628.length : Int)
                ·rw [if_pos c76] at H
                 have c76b0 := eq_true c76
                 have c76b1 : decide ((ji74) ≤ (t628.length : Int)) = true := decide_eq_true c76
                 clear c76
                 obtain ⟨y657, hy657⟩ : ∃ y_ : List (S28), y_ = (t628.take ((ji74) : Int).toNat) := ⟨_, rfl⟩
                 replace H : ((spec_LeftOf.f kj34 8 8 8 0 y623 y657).bind fun t661 => ((spec_ToZig.f kj34 x11_34).bind fun t664 => ((spec_ToZig.f kj34 t610).bind fun t667 => (laws_FnPasses.l2 kj34 t610 t628 x11_34 x12_3 t661 t664 t667 0 8 8 8 0 y623)))) = some r := by first | (rw [hy657]; with_reducible exact H) | (have H2_ := (Option.bind_some _ _).symm.trans H; rw [hy657]; with_reducible exact H2_) | (have H2_ := (Option.bind_some _ _).symm.trans H; with_reducible exact H2_) | with_reducible exact H | (rw [hy657]; exact H) | exact H
                 have Ny657 := aM hy657
                 clear hy657
                 obtain ⟨t661, A77, H⟩ := oH H
                 obtain ⟨t664, A78, H⟩ := oH H
                 obtain ⟨t667, A79, H⟩ := oH H
                 have H' := aM H
                 clear H
                 try go_wp2
                 have n0_ := aM (Kd.R_drew HO_5.out)
                 have n1_ := aM (Kd.N_drew HO_10.out)
                 have n2_ := aM (Kd.R_drew HO_11.out)
                 have n3_ := aM (Kd.R_drew HO_621000.out)
                 have n4_ := aM (Kd.R_drew HO_627004.out)
                 have n5_ := aM (kD BK620.out)
                 have n6_ := aM (kD BK626.out)
                 have n7_ := aM (Kd.C_drew HR635_0.out)
                 have n8_ := aM (b1 HB.out)
                 clear HO_5
                 clear HO_10
                 clear HO_11
                 clear HO_621000
                 clear HO_627004
                 clear BK620
                 clear BK626
                 clear HR635_0
                 clear HB
                 have HO_5 := n0_
                 have HO_10 := n1_
                 have HO_11 := n2_
                 have HO_621000 := n3_
                 have HO_627004 := n4_
                 have BK620 := n5_
                 have BK626 := n6_
                 have HR635_0 := n7_
                 have HB := n8_
                 clear n0_ n1_ n2_ n3_ n4_ n5_ n6_ n7_ n8_
                 have q81 : ((ji74) : Int) ≤ ((t628.length : Int) : Int) := zA
                 obtain ⟨i081, hi081, _, hsz81, _⟩ := info_parts info28
                 have hroom81 : t628.length ≤ co36 := (Kd.N_reads' HO_10.out).2.1
                 have hC81 : Kd.C k28 _ (some ad635) t628.length t628 := (Kd.N_reads' HO_10.out).2.2
                 have hcut81 := cut_to (P := Try.prog) 46 28 .i64 Try.underlying46 hi081 (some ad635) t628.length co36 (ji74) (zA) q81 hroom81
                 have hr81 := Kd.C_take (m := ((ji74) : Int).toNat) hC81 (by omega)
                 have hy81 : y657.length = ((ji74) : Int).toNat := (by rw [Ny657.out, List.length_take]; omega)
                 rw [← Ny657.out] at hr81
                 rw [← hy81] at hcut81
                 have HR660 := aM hr81
                 have HC660 := aM (show y657.length ≤ co36 from by omega)
                 clear hr81 hC81 hroom81 hi081 hsz81
                 have KY81 := aM hy81
                 clear hy81
                 have KL81 := aM (show ((ji74) : Int).toNat ≤ t628.length from by omega)
                 replace q81 := eq_true q81
                 refine start_ (n := 7) (S := fun w' => w'.cell? ⟨gb626, 0, none⟩ = some (.int .i64 8) ∧ w'.cell? ⟨gb626, 1, none⟩ = some (.int .i64 8) ∧ w'.cell? ⟨gb626, 2, none⟩ = some (.int .i64 8) ∧ w'.cell? ⟨gb626, 3, none⟩ = some (.int .i64 0) ∧ w'.cell? ⟨gb626, 4, none⟩ = some (.slice Ao24 y623.length co24)) (ds := []) #[false, false, false, false, false, false, false] (by kernel_rfl) rfl rfl ⟨(kC BK626.out 0).trans rfl, (kC BK626.out 1).trans rfl, (kC BK626.out 2).trans rfl, (kC BK626.out 3).trans rfl, (kC BK626.out 4).trans rfl⟩ (fun hHeld => ?_)
                 generalize wc.drew = w80 at HO_5 HO_10 HO_11 HO_621000 HO_627004 BK620 BK626 HR635_0 HB HR660 hHeld ⊢
                 refine pure_ (i := 1) (N := some 106) (v := ?_) (a' := ?_) #[false, true, false, false, false, false, false] rfl rfl (by kernel_rfl) (fun _ _ _ h => h) (Or.inl ⟨by rfl, ?_⟩) ?_ ?_
                 rotate_left
                 ·intro w'
                  go_simp
                  with_reducible rfl
                 rotate_left
                 ·simp only [Act.put, List.setIfInBounds_toArray, List.set_cons_zero, List.set_cons_succ, i64_w, i32_w]
                  rfl
                 refine pure_ (i := 2) (N := some 107) (v := ?_) (a' := ?_) #[false, true, true, false, false, false, false] rfl rfl (by kernel_rfl) (fun _ _ _ h => h) (Or.inl ⟨by rfl, ?_⟩) ?_ ?_
                 rotate_left
                 ·intro w'
                  go_simp
                  with_reducible rfl
                 rotate_left
                 ·simp only [Act.put, List.setIfInBounds_toArray, List.set_cons_zero, List.set_cons_succ, i64_w, i32_w]
                  rfl
                 refine pure_ (i := 3) (N := some 108) (v := ?_) (a' := ?_) #[false, true, true, true, false, false, false] rfl rfl (by kernel_rfl) (fun _ _ _ h => h) (Or.inl ⟨by rfl, ?_⟩) ?_ ?_
                 rotate_left
                 ·intro w'
                  go_simp
                  with_reducible rfl
                 rotate_left
                 ·simp only [Act.put, List.setIfInBounds_toArray, List.set_cons_zero, List.set_cons_succ, i64_w, i32_w]
                  rfl
                 refine pure_ (i := 4) (N := some 109) (v := ?_) (a' := ?_) #[false, true, true, true, true, false, false] rfl rfl (by kernel_rfl) (fun _ _ _ h => h) (Or.inl ⟨by rfl, ?_⟩) ?_ ?_
                 rotate_left
                 ·intro w'
                  go_simp
                  with_reducible rfl
                 rotate_left
                 ·simp only [Act.put, List.setIfInBounds_toArray, List.set_cons_zero, List.set_cons_succ, i64_w, i32_w]
                  rfl
                 refine take_ (i := 0) (N := some 105) (v := ?_) (a' := ?_) #[true, true, true, true, true, false, false] rfl rfl (by kernel_rfl) (fun _ _ _ h => h) (Or.inl ⟨by rfl, ?_⟩) hHeld ?_ ?_
                 rotate_left
                 ·rintro w' ⟨s0, s1, s2, s3, s4⟩
                  go_simp
                  with_reducible rfl
                 rotate_left
                 ·simp only [Act.put, List.setIfInBounds_toArray, List.set_cons_zero, List.set_cons_succ, i64_w, i32_w]
                  rfl
                 refine one_ (i := 5) (N := some 110) #[true, true, true, true, true, true, false] rfl rfl (by kernel_rfl) (by decide) (fun K hK => ?_)
                 refine zGo Try.func36 #[.agg #[.int .i64 8, .int .i64 8, .int .i64 8, .int .i64 0, .slice Ao24 y623.length co24], .slice (some ad635) y657.length co36] ?_
                 with_reducible refine (spec_LeftOf.calls kj34 8 8 8 0 _ _ y623 _ _ y657 t661 _ ?side1 ?side2 ?side3 ?side4 A77.out).mono ?_
                 (case side1 => exact zC (Kd.R_reads' HO_627004.out).2.2)
                 (case side2 => exact (Kd.R_reads' HO_627004.out).2.1)
                 (case side3 => exact zC HR660.out)
                 (case side4 => exact HC660.out)
                 rintro e w82 ⟨v662, rfl, ho0, hb⟩
                 refine ⟨_, rfl, ?_⟩
                 obtain ⟨N_HO663, hN_HO663⟩ := sepN ho0
                 have n0_ := aM (Kd.R_below (by (with_reducible repeat (first | apply Kd.R_alloc | apply Kd.R_drewN | apply Kd.R_drew)); exact HO_5.out) hb)
                 have n1_ := aM (sepON (by (with_reducible repeat (first | apply Kd.N_alloc | apply Kd.N_drewN | apply Kd.N_drew)); exact HO_10.out) hN_HO663 hb)
                 have n2_ := aM (Kd.R_below (by (with_reducible repeat (first | apply Kd.R_alloc | apply Kd.R_drewN | apply Kd.R_drew)); exact HO_11.out) hb)
                 have n3_ := aM (Kd.R_below (by (with_reducible repeat (first | apply Kd.R_alloc | apply Kd.R_drewN | apply Kd.R_drew)); exact HO_621000.out) hb)
                 have n4_ := aM (Kd.R_below (by (with_reducible repeat (first | apply Kd.R_alloc | apply Kd.R_drewN | apply Kd.R_drew)); exact HO_627004.out) hb)
                 have n5_ := aM (Kd.S_lower (Kd.S_new' (Kd.S_new' (sepW (Kd.S_new' ho0 (Kd.R_lt (by (with_reducible repeat (first | apply Kd.R_alloc | apply Kd.R_drewN | apply Kd.R_drew)); exact HO_5.out))) hN_HO663) (Kd.R_lt (by (with_reducible repeat (first | apply Kd.R_alloc | apply Kd.R_drewN | apply Kd.R_drew)); exact HO_11.out))) (Kd.R_lt (by (with_reducible repeat (first | apply Kd.R_alloc | apply Kd.R_drewN | apply Kd.R_drew)); exact HO_621000.out))) (below_size zH))
                 have n6_ := cB BK620 hb
                 have n7_ := cB BK626 hb
                 have n8_ := cC HR635_0 hb
                 have n9_ := cC HR660 hb
                 have n10_ := cH HB hb
                 clear HO_5
                 clear HO_10
                 clear HO_11
                 clear HO_621000
                 clear HO_627004
                 clear BK620
                 clear BK626
                 clear HR635_0
                 clear HR660
                 clear HB
                 have HO_5 := n0_
                 have HO_10 := n1_
                 have HO_11 := n2_
                 have HO_621000 := n3_
                 have HO_627004 := n4_
                 have HO663 := n5_
                 have BK620 := n6_
                 have BK626 := n7_
                 have HR635_0 := n8_
                 have HR660 := n9_
                 have HB := n10_
                 clear n0_ n1_ n2_ n3_ n4_ n5_ n6_ n7_ n8_ n9_ n10_
                 (try clear hb)
                 (try clear hb2)
                 (try clear hk)
                 (try clear hi)
                 (try clear ho0)
                 refine hK.out _ _ ⟨(kC BK626.out 0).trans rfl, (kC BK626.out 1).trans rfl, (kC BK626.out 2).trans rfl, (kC BK626.out 3).trans rfl, (kC BK626.out 4).trans rfl⟩ (fun hHeld => ?_)
                 clear hK K
                 refine zNo (some 110) ?_
                 refine pure_ (i := 6) (N := some 16) (v := ?_) (a' := ?_) #[true, true, true, true, true, true, true] rfl rfl (by kernel_rfl) (fun _ _ _ h => h) (Or.inl ⟨by rfl, ?_⟩) ?_ ?_
                 rotate_left
                 ·intro w'
                  go_simp
                  with_reducible rfl
                 rotate_left
                 ·simp only [Act.put, List.setIfInBounds_toArray, List.set_cons_zero, List.set_cons_succ, i64_w, i32_w]
                  rfl
                 refine done_ (by kernel_rfl) ?_
                 obtain ⟨Ao83, co83, eo83⟩ := Kd.R_slice HO_11.out
                 subst eo83
                 try go_wp2_with (first | ((with_reducible refine gate_callee (f := 37) rfl ?_); refine zGl (some 112) Try.func37 #[.slice Ao83 x11_34.length co83] ?_; (with_reducible refine (spec_ToZig.calls kj34 _ _ x11_34 t664 _ ?side1 ?side2 A78.out).mono ?_); (case side1 => exact zC (Kd.R_reads' HO_11.out).2.2); (case side2 => exact (Kd.R_reads' HO_11.out).2.1); rintro e w84 ⟨v665, rfl, ho0, hb⟩; refine ⟨_, rfl, ?_⟩; replace HO_10 := aM (Kd.N_elder' (by (with_reducible repeat (first | apply Kd.N_alloc | apply Kd.N_drewN | apply Kd.N_drew)); exact HO_10.out) (Kd.R_base ho0) hb); replace HO_627004 := aM (Kd.R_below (by (with_reducible repeat (first | apply Kd.R_alloc | apply Kd.R_drewN | apply Kd.R_drew)); exact HO_627004.out) hb); replace HO663 := aM (Kd.S_elder' (by (with_reducible repeat (first | apply Kd.S_alloc | apply Kd.S_drewN | apply Kd.S_drew)); exact HO663.out) (Kd.R_base ho0) hb); have HO666 := aM (Kd.R_lower (Kd.R_new' (Kd.R_new' (Kd.R_new' ho0 (Kd.R_lt (by (with_reducible repeat (first | apply Kd.R_alloc | apply Kd.R_drewN | apply Kd.R_drew)); exact HO_5.out))) (Kd.R_lt (by (with_reducible repeat (first | apply Kd.R_alloc | apply Kd.R_drewN | apply Kd.R_drew)); exact HO_11.out))) (Kd.R_lt (by (with_reducible repeat (first | apply Kd.R_alloc | apply Kd.R_drewN | apply Kd.R_drew)); exact HO_621000.out))) (below_size zH)); replace HO_5 := aM (Kd.R_elder' (by (with_reducible repeat (first | apply Kd.R_alloc | apply Kd.R_drewN | apply Kd.R_drew)); exact HO_5.out) (Kd.R_base ho0) hb); replace HO_11 := aM (Kd.R_elder' (by (with_reducible repeat (first | apply Kd.R_alloc | apply Kd.R_drewN | apply Kd.R_drew)); exact HO_11.out) (Kd.R_base ho0) hb); replace HO_621000 := aM (Kd.R_elder' (by (with_reducible repeat (first | apply Kd.R_alloc | apply Kd.R_drewN | apply Kd.R_drew)); exact HO_621000.out) (Kd.R_base ho0) hb); replace BK620 := cB BK620 hb; replace BK626 := cB BK626 hb; replace HR635_0 := cC HR635_0 hb; replace HR660 := cC HR660 hb; replace HB := cH HB hb; (try clear hb); (try clear ho0)) | ((with_reducible refine gate_callee (f := 37) rfl ?_); refine zGl (some 114) Try.func37 #[.slice Ao13 t610.length co13] ?_; (with_reducible refine (spec_ToZig.calls kj34 _ _ t610 t667 _ ?side1 ?side2 A79.out).mono ?_); (case side1 => exact zC (Kd.R_reads' HO_5.out).2.2); (case side2 => exact (Kd.R_reads' HO_5.out).2.1); rintro e w85 ⟨v668, rfl, ho0, hb⟩; refine ⟨_, rfl, ?_⟩; replace HO_10 := aM (Kd.N_elder' (by (with_reducible repeat (first | apply Kd.N_alloc | apply Kd.N_drewN | apply Kd.N_drew)); exact HO_10.out) (Kd.R_base ho0) hb); replace HO_627004 := aM (Kd.R_below (by (with_reducible repeat (first | apply Kd.R_alloc | apply Kd.R_drewN | apply Kd.R_drew)); exact HO_627004.out) hb); replace HO663 := aM (Kd.S_elder' (by (with_reducible repeat (first | apply Kd.S_alloc | apply Kd.S_drewN | apply Kd.S_drew)); exact HO663.out) (Kd.R_base ho0) hb); have HO669 := aM (Kd.R_lower (Kd.R_new' (Kd.R_new' (Kd.R_new' (Kd.R_new' ho0 (Kd.R_lt (by (with_reducible repeat (first | apply Kd.R_alloc | apply Kd.R_drewN | apply Kd.R_drew)); exact HO_5.out))) (Kd.R_lt (by (with_reducible repeat (first | apply Kd.R_alloc | apply Kd.R_drewN | apply Kd.R_drew)); exact HO_11.out))) (Kd.R_lt (by (with_reducible repeat (first | apply Kd.R_alloc | apply Kd.R_drewN | apply Kd.R_drew)); exact HO_621000.out))) (Kd.R_lt (by (with_reducible repeat (first | apply Kd.R_alloc | apply Kd.R_drewN | apply Kd.R_drew)); exact HO666.out))) (below_size zH)); replace HO_5 := aM (Kd.R_elder' (by (with_reducible repeat (first | apply Kd.R_alloc | apply Kd.R_drewN | apply Kd.R_drew)); exact HO_5.out) (Kd.R_base ho0) hb); replace HO_11 := aM (Kd.R_elder' (by (with_reducible repeat (first | apply Kd.R_alloc | apply Kd.R_drewN | apply Kd.R_drew)); exact HO_11.out) (Kd.R_base ho0) hb); replace HO_621000 := aM (Kd.R_elder' (by (with_reducible repeat (first | apply Kd.R_alloc | apply Kd.R_drewN | apply Kd.R_drew)); exact HO_621000.out) (Kd.R_base ho0) hb); replace HO666 := aM (Kd.R_elder' (by (with_reducible repeat (first | apply Kd.R_alloc | apply Kd.R_drewN | apply Kd.R_drew)); exact HO666.out) (Kd.R_base ho0) hb); replace BK620 := cB BK620 hb; replace BK626 := cB BK626 hb; replace HR635_0 := cC HR635_0 hb; replace HR660 := cC HR660 hb; replace HB := cH HB hb; (try clear hb); (try clear ho0)))
                 go_loopg [19] kj34 (fun kq v19 w' => ∃ (x19_5 : Int), v19 = .int .i64 x19_5 ∧ Aside0 (laws_FnPasses.l2 kq t610 t628 x11_34 x12_3 t661 t664 t667 x19_5 8 8 8 0 y623 = some r) ∧ Aside0 (kq ≤ kj34) ∧ Aside0 (Kd.R (Kd.int .i64) 3 w' w.heap.size (fun k_ => some k_ ≠ ((.slice Ao83 x11_34.length co83) : Value).ownBlock ∧ some k_ ≠ (v665 : Value).ownBlock ∧ some k_ ≠ (v668 : Value).ownBlock ∧ some k_ ≠ ((.slice Ao11 t613.length co11) : Value).ownBlock) (.slice Ao13 t610.length co13) t610) ∧ Aside0 (Kd.N k28 28 w' w.heap.size (fun k_ => some k_ ≠ ((.slice Ao13 t610.length co13) : Value).ownBlock ∧ some k_ ≠ ((.slice Ao83 x11_34.length co83) : Value).ownBlock ∧ k_ < N_HO663 ∧ some k_ ≠ (v665 : Value).ownBlock ∧ some k_ ≠ (v668 : Value).ownBlock ∧ some k_ ≠ ((.slice Ao11 t613.length co11) : Value).ownBlock ∧ some k_ ≠ ((.slice Ao24 y623.length co24) : Value).ownBlock ∧ k_ ≠ gb620 ∧ k_ ≠ gb626) (.slice (some ad635) t628.length co36) t628) ∧ Aside0 (Kd.R (Kd.int .i64) 3 w' w.heap.size (fun k_ => some k_ ≠ ((.slice Ao13 t610.length co13) : Value).ownBlock ∧ some k_ ≠ (v665 : Value).ownBlock ∧ some k_ ≠ (v668 : Value).ownBlock ∧ some k_ ≠ ((.slice Ao11 t613.length co11) : Value).ownBlock) (.slice Ao83 x11_34.length co83) x11_34) ∧ Aside0 (Kd.S (Kd.slice 3 (Kd.int .i64)) 22 w' w.heap.size (fun k_ => some k_ ≠ ((.slice Ao13 t610.length co13) : Value).ownBlock ∧ N_HO663 ≤ k_ ∧ some k_ ≠ ((.slice Ao83 x11_34.length co83) : Value).ownBlock ∧ some k_ ≠ (v665 : Value).ownBlock ∧ some k_ ≠ (v668 : Value).ownBlock ∧ some k_ ≠ ((.slice Ao11 t613.length co11) : Value).ownBlock) v662 t661) ∧ Aside0 (Kd.R (Kd.int .i64) 3 w' w.heap.size (fun k_ => some k_ ≠ ((.slice Ao13 t610.length co13) : Value).ownBlock ∧ some k_ ≠ ((.slice Ao83 x11_34.length co83) : Value).ownBlock ∧ some k_ ≠ (v668 : Value).ownBlock ∧ some k_ ≠ ((.slice Ao11 t613.length co11) : Value).ownBlock) v665 t664) ∧ Aside0 (Kd.R (Kd.int .i64) 3 w' w.heap.size (fun k_ => some k_ ≠ ((.slice Ao13 t610.length co13) : Value).ownBlock ∧ some k_ ≠ ((.slice Ao83 x11_34.length co83) : Value).ownBlock ∧ some k_ ≠ (v665 : Value).ownBlock ∧ some k_ ≠ ((.slice Ao11 t613.length co11) : Value).ownBlock) v668 t667) ∧ Aside0 (Kd.R (Kd.int .i64) 3 w' w.heap.size (fun k_ => some k_ ≠ ((.slice Ao13 t610.length co13) : Value).ownBlock ∧ some k_ ≠ ((.slice Ao83 x11_34.length co83) : Value).ownBlock ∧ some k_ ≠ (v665 : Value).ownBlock ∧ some k_ ≠ (v668 : Value).ownBlock) (.slice Ao11 t613.length co11) t613) ∧ Aside0 (Kd.R k42 42 w' w.heap.size (fun _ => True) (.slice Ao24 y623.length co24) y623) ∧ Aside0 (w'.heap[gb620]? = some (.cells #[(.slice Ao11 t613.length co11), .int .i64 t616, .int .i64 t617, .int .i64 t618, .int .i64 t619] 28 (0, 0))) ∧ Aside0 (w'.heap[gb626]? = some (.cells #[.int .i64 8, .int .i64 8, .int .i64 8, .int .i64 0, (.slice Ao24 y623.length co24)] 45 (0, 0))) ∧ Aside0 (Kd.C (Kd.int .i64) w' A635_0 ((rd_T28 t628 x12_3).f0).length ((rd_T28 t628 x12_3).f0)) ∧ Aside0 (Kd.C k28 w' (some ad635) y657.length y657) ∧ Aside0 (Below w.heap.size w w'))
                 case atStart => exact ⟨(0), zS, H', ⟨Nat.le_refl _⟩, ⟨by (with_reducible repeat (first | apply Kd.R_alloc | apply Kd.R_drewN | apply Kd.R_drew)); exact Kd.R_mono HO_5.out (fun _ hk => ⟨hk.1.1.1, ⟨hk.1.2, ⟨hk.2, hk.1.1.2⟩⟩⟩)⟩, ⟨by (with_reducible repeat (first | apply Kd.N_alloc | apply Kd.N_drewN | apply Kd.N_drew)); exact Kd.N_mono HO_10.out (fun _ hk => ⟨hk.1.1.1.1, ⟨hk.1.1.1.2.1, ⟨hk.1.1.2, ⟨hk.1.2, ⟨hk.2, ⟨hk.1.1.1.2.2.1, ⟨hk.1.1.1.2.2.2.1, ⟨hk.1.1.1.2.2.2.2.1, hk.1.1.1.2.2.2.2.2⟩⟩⟩⟩⟩⟩⟩⟩)⟩, ⟨by (with_reducible repeat (first | apply Kd.R_alloc | apply Kd.R_drewN | apply Kd.R_drew)); exact Kd.R_mono HO_11.out (fun _ hk => ⟨hk.1.1.1, ⟨hk.1.2, ⟨hk.2, hk.1.1.2⟩⟩⟩)⟩, ⟨by (with_reducible repeat (first | apply Kd.S_alloc | apply Kd.S_drewN | apply Kd.S_drew)); exact Kd.S_mono HO663.out (fun _ hk => ⟨hk.1.1.1.1.1.2, ⟨hk.1.1.1.1.2, ⟨hk.1.1.1.2, ⟨hk.1.2, ⟨hk.2, hk.1.1.2⟩⟩⟩⟩⟩)⟩, ⟨by (with_reducible repeat (first | apply Kd.R_alloc | apply Kd.R_drewN | apply Kd.R_drew)); exact Kd.R_mono HO666.out (fun _ hk => ⟨hk.1.1.1.2, ⟨hk.1.1.2, ⟨hk.2, hk.1.2⟩⟩⟩)⟩, ⟨by (with_reducible repeat (first | apply Kd.R_alloc | apply Kd.R_drewN | apply Kd.R_drew)); exact Kd.R_mono HO669.out (fun _ hk => ⟨hk.1.1.1.2, ⟨hk.1.1.2, ⟨hk.2, hk.1.2⟩⟩⟩)⟩, ⟨by (with_reducible repeat (first | apply Kd.R_alloc | apply Kd.R_drewN | apply Kd.R_drew)); exact Kd.R_mono HO_621000.out (fun _ hk => ⟨hk.1.1.1, ⟨hk.1.1.2, ⟨hk.1.2, hk.2⟩⟩⟩)⟩, ⟨by (with_reducible repeat (first | apply Kd.R_alloc | apply Kd.R_drewN | apply Kd.R_drew)); exact HO_627004.out⟩, ⟨zK BK620⟩, ⟨zK BK626⟩, ⟨zC HR635_0.out⟩, ⟨zC HR660.out⟩, ⟨zH⟩⟩
                 case round =>
                  clear H'
                  (try clear c75b0); (try clear c75b1); (try clear c76b0); (try clear c76b1); (try clear q81)
                  obtain ⟨x19_5, rfl, HA, HK5, HO_5, HO_10, HO_11, HO_16, HO_17, HO_18, HO_621000, HO_627004, BK620, BK626, HR635_0, HR660, HB⟩ := hrel
                  cases gk with
                  | zero => exact absurd HA.out (by simp [laws_FnPasses.l2])
                  | succ k5 =>
                   have H := HA.out
                   clear HA
                   simp only [laws_FnPasses.l2] at H
                   have HC86 := aM H
                   clear H
                   go_upto_region 31 with (fail)
                   go_cut [121] (fun v121 wc => ∃ (kq : Nat) (x121_85 : Bool), v121 = .bool x121_85 ∧ Aside0 (laws_FnPasses.j5 kq t610 t628 x11_34 x12_3 t661 t664 t667 x19_5 x121_85 8 8 8 0 y623 = some r) ∧ Aside0 (kq ≤ k5) ∧ Aside0 (Kd.R (Kd.int .i64) 3 wc w.heap.size (fun k_ => some k_ ≠ ((.slice Ao83 x11_34.length co83) : Value).ownBlock ∧ some k_ ≠ (v665 : Value).ownBlock ∧ some k_ ≠ (v668 : Value).ownBlock ∧ some k_ ≠ ((.slice Ao11 t613.length co11) : Value).ownBlock) (.slice Ao13 t610.length co13) t610) ∧ Aside0 (Kd.N k28 28 wc w.heap.size (fun k_ => some k_ ≠ ((.slice Ao13 t610.length co13) : Value).ownBlock ∧ some k_ ≠ ((.slice Ao83 x11_34.length co83) : Value).ownBlock ∧ k_ < N_HO663 ∧ some k_ ≠ (v665 : Value).ownBlock ∧ some k_ ≠ (v668 : Value).ownBlock ∧ some k_ ≠ ((.slice Ao11 t613.length co11) : Value).ownBlock ∧ some k_ ≠ ((.slice Ao24 y623.length co24) : Value).ownBlock ∧ k_ ≠ gb620 ∧ k_ ≠ gb626) (.slice (some ad635) t628.length co36) t628) ∧ Aside0 (Kd.R (Kd.int .i64) 3 wc w.heap.size (fun k_ => some k_ ≠ ((.slice Ao13 t610.length co13) : Value).ownBlock ∧ some k_ ≠ (v665 : Value).ownBlock ∧ some k_ ≠ (v668 : Value).ownBlock ∧ some k_ ≠ ((.slice Ao11 t613.length co11) : Value).ownBlock) (.slice Ao83 x11_34.length co83) x11_34) ∧ Aside0 (Kd.S (Kd.slice 3 (Kd.int .i64)) 22 wc w.heap.size (fun k_ => some k_ ≠ ((.slice Ao13 t610.length co13) : Value).ownBlock ∧ N_HO663 ≤ k_ ∧ some k_ ≠ ((.slice Ao83 x11_34.length co83) : Value).ownBlock ∧ some k_ ≠ (v665 : Value).ownBlock ∧ some k_ ≠ (v668 : Value).ownBlock ∧ some k_ ≠ ((.slice Ao11 t613.length co11) : Value).ownBlock) v662 t661) ∧ Aside0 (Kd.R (Kd.int .i64) 3 wc w.heap.size (fun k_ => some k_ ≠ ((.slice Ao13 t610.length co13) : Value).ownBlock ∧ some k_ ≠ ((.slice Ao83 x11_34.length co83) : Value).ownBlock ∧ some k_ ≠ (v668 : Value).ownBlock ∧ some k_ ≠ ((.slice Ao11 t613.length co11) : Value).ownBlock) v665 t664) ∧ Aside0 (Kd.R (Kd.int .i64) 3 wc w.heap.size (fun k_ => some k_ ≠ ((.slice Ao13 t610.length co13) : Value).ownBlock ∧ some k_ ≠ ((.slice Ao83 x11_34.length co83) : Value).ownBlock ∧ some k_ ≠ (v665 : Value).ownBlock ∧ some k_ ≠ ((.slice Ao11 t613.length co11) : Value).ownBlock) v668 t667) ∧ Aside0 (Kd.R (Kd.int .i64) 3 wc w.heap.size (fun k_ => some k_ ≠ ((.slice Ao13 t610.length co13) : Value).ownBlock ∧ some k_ ≠ ((.slice Ao83 x11_34.length co83) : Value).ownBlock ∧ some k_ ≠ (v665 : Value).ownBlock ∧ some k_ ≠ (v668 : Value).ownBlock) (.slice Ao11 t613.length co11) t613) ∧ Aside0 (Kd.R k42 42 wc w.heap.size (fun _ => True) (.slice Ao24 y623.length co24) y623) ∧ Aside0 (wc.heap[gb620]? = some (.cells #[(.slice Ao11 t613.length co11), .int .i64 t616, .int .i64 t617, .int .i64 t618, .int .i64 t619] 28 (0, 0))) ∧ Aside0 (wc.heap[gb626]? = some (.cells #[.int .i64 8, .int .i64 8, .int .i64 8, .int .i64 0, (.slice Ao24 y623.length co24)] 45 (0, 0))) ∧ Aside0 (Kd.C (Kd.int .i64) wc A635_0 ((rd_T28 t628 x12_3).f0).length ((rd_T28 t628 x12_3).f0)) ∧ Aside0 (Kd.C k28 wc (some ad635) y657.length y657) ∧ Aside0 (Below w.heap.size w wc))
                   case first =>
                    have H := HC86.out
                    clear HC86
                    by_cases c87 : x19_5 < 64
                    ·rw [if_pos c87] at H
                     have c87b0 : decide (x19_5 < 64) = true := decide_eq_true c87
                     clear c87
                     (first | rw [c87b0] | (simp only [i64_w, i32_w]; rw [c87b0]) | skip)
                     have H' := aM H
                     clear H
                     obtain ⟨Ao88, co88, eo88⟩ := Kd.R_slice HO_17.out
                     subst eo88
                     go_wp2
                     go_meet
                     case rel => exact ⟨_, (((t664.length : Int) == 64)), zS, H', ⟨by have := HJ2.out; have := HK2.out; have := HK3.out; have := HJ34.out; have := HK5.out; first | omega | exact Nat.le_refl _⟩, ⟨by (with_reducible repeat (first | apply Kd.R_alloc | apply Kd.R_drewN | apply Kd.R_drew)); exact HO_5.out⟩, ⟨by (with_reducible repeat (first | apply Kd.N_alloc | apply Kd.N_drewN | apply Kd.N_drew)); exact HO_10.out⟩, ⟨by (with_reducible repeat (first | apply Kd.R_alloc | apply Kd.R_drewN | apply Kd.R_drew)); exact HO_11.out⟩, ⟨by (with_reducible repeat (first | apply Kd.S_alloc | apply Kd.S_drewN | apply Kd.S_drew)); exact HO_16.out⟩, ⟨by (with_reducible repeat (first | apply Kd.R_alloc | apply Kd.R_drewN | apply Kd.R_drew)); exact HO_17.out⟩, ⟨by (with_reducible repeat (first | apply Kd.R_alloc | apply Kd.R_drewN | apply Kd.R_drew)); exact HO_18.out⟩, ⟨by (with_reducible repeat (first | apply Kd.R_alloc | apply Kd.R_drewN | apply Kd.R_drew)); exact HO_621000.out⟩, ⟨by (with_reducible repeat (first | apply Kd.R_alloc | apply Kd.R_drewN | apply Kd.R_drew)); exact HO_627004.out⟩, ⟨zK BK620⟩, ⟨zK BK626⟩, ⟨zC HR635_0.out⟩, ⟨zC HR660.out⟩, ⟨zH⟩⟩
                    ·rw [if_neg c87] at H
                     have c87b0 : decide (x19_5 < 64) = false := decide_eq_false c87
                     clear c87
                     (first | rw [c87b0] | (simp only [i64_w, i32_w]; rw [c87b0]) | skip)
                     have H' := aM H
                     clear H
                     go_wp2
                     go_meet
                     case rel => exact ⟨_, (false), zS, H', ⟨by have := HJ2.out; have := HK2.out; have := HK3.out; have := HJ34.out; have := HK5.out; first | omega | exact Nat.le_refl _⟩, ⟨by (with_reducible repeat (first | apply Kd.R_alloc | apply Kd.R_drewN | apply Kd.R_drew)); exact HO_5.out⟩, ⟨by (with_reducible repeat (first | apply Kd.N_alloc | apply Kd.N_drewN | apply Kd.N_drew)); exact HO_10.out⟩, ⟨by (with_reducible repeat (first | apply Kd.R_alloc | apply Kd.R_drewN | apply Kd.R_drew)); exact HO_11.out⟩, ⟨by (with_reducible repeat (first | apply Kd.S_alloc | apply Kd.S_drewN | apply Kd.S_drew)); exact HO_16.out⟩, ⟨by (with_reducible repeat (first | apply Kd.R_alloc | apply Kd.R_drewN | apply Kd.R_drew)); exact HO_17.out⟩, ⟨by (with_reducible repeat (first | apply Kd.R_alloc | apply Kd.R_drewN | apply Kd.R_drew)); exact HO_18.out⟩, ⟨by (with_reducible repeat (first | apply Kd.R_alloc | apply Kd.R_drewN | apply Kd.R_drew)); exact HO_621000.out⟩, ⟨by (with_reducible repeat (first | apply Kd.R_alloc | apply Kd.R_drewN | apply Kd.R_drew)); exact HO_627004.out⟩, ⟨zK BK620⟩, ⟨zK BK626⟩, ⟨zC HR635_0.out⟩, ⟨zC HR660.out⟩, ⟨zH⟩⟩
                   case rest =>
                    clear HC86
                    obtain ⟨kq, x121_85, rfl, HA, HJ85, HO_5, HO_10, HO_11, HO_16, HO_17, HO_18, HO_621000, HO_627004, BK620, BK626, HR635_0, HR660, HB⟩ := hcut
                    cases kq with
                    | zero => exact absurd HA.out (by simp [laws_FnPasses.j5])
                    | succ kj85 =>
                     have H := HA.out
                     clear HA
                     simp only [laws_FnPasses.j5] at H
                     by_cases c89 : x121_85 = true
                     ·subst c89
                      replace H := iT H
                      by_cases c90 : 0 < (t661.length : Int)
                      ·rw [if_pos c90] at H
                       have c90b0 : decide (0 < (t661.length : Int)) = true := decide_eq_true c90
                       have c90b1 : decide (0 < t661.length) = true := decide_eq_true (by omega)
                       clear c90
                       by_cases c91 : 0 ≤ x19_5
                       ·rw [if_pos c91] at H
                        have c91b0 : decide (0 ≤ x19_5) = true := decide_eq_true c91
                        clear c91
                        by_cases c92 : x19_5 < ((rd_L3 t661 0).length : Int)
                        ·rw [if_pos c92] at H
                         have c92b0 : decide (x19_5 < ((rd_L3 t661 0).length : Int)) = true := decide_eq_true c92
                         clear c92
                         by_cases c93 : (rd (rd_L3 t661 0) x19_5) ≥ 0
                         ·rw [if_pos c93] at H
                          have c93b0 : decide (0 ≤ (rd (rd_L3 t661 0) x19_5)) = true := decide_eq_true c93
                          clear c93
                          by_cases c94 : x19_5 < (t667.length : Int)
                          ·rw [if_pos c94] at H
                           have c94b0 : decide (x19_5 < (t667.length : Int)) = true := decide_eq_true c94
                           clear c94
                           obtain ⟨t673, A95, H⟩ := oH H
                           by_cases c96 : 0 ≤ (rd (rd_L3 t661 0) x19_5)
                           ·rw [if_pos c96] at H
                            have c96b0 := eq_true c96
                            have c96b1 : decide (0 ≤ (rd (rd_L3 t661 0) x19_5)) = true := decide_eq_true c96
                            clear c96
                            obtain ⟨ji97, hji97⟩ : ∃ j_ : Int, (shr .i64 t673 (rd (rd_L3 t661 0) x19_5)) = j_ := ⟨_, rfl⟩
                            replace H : (if (rd t667 x19_5) < 0 then (if x19_5 < (t664.length : Int) then (if (rd t664 x19_5) = (wrap64 (-(shl .i64 (ji97) (rd (rd_L3 t661 0) x19_5)))) then (laws_FnPasses.l2 kj85 t610 t628 x11_34 x12_3 t661 t664 t667 (wrap64 (x19_5 + 1)) 8 8 8 0 y623) else (some false)) else (none)) else (if x19_5 < (t664.length : Int) then (if (rd t664 x19_5) = (shl .i64 (ji97) (rd (rd_L3 t661 0) x19_5)) then (laws_FnPasses.l2 kj85 t610 t628 x11_34 x12_3 t661 t664 t667 (wrap64 (x19_5 + 1)) 8 8 8 0 y623) else (some false)) else (none))) = some r := by first | (rw [hji97] at H; exact H) | (simp only [hji97] at H ⊢; exact H)
                            (try rw [hji97] at A95)
                            have hji97_ : (t673 / 2 ^ min (rd (rd_L3 t661 0) x19_5).toNat 64) = ji97 := hji97
                            have hji97z : (rd (rd_L3 t661 0) x19_5) ≤ 64 → (t673 / 2 ^ (rd (rd_L3 t661 0) x19_5).toNat) = ji97 := shr_small hji97
                            have c98b0 := eq_true (zA : 0 ≤ (rd (rd_L3 t661 0) x19_5))
                            obtain ⟨ji99, hji99⟩ : ∃ j_ : Int, (shl .i64 (ji97) (rd (rd_L3 t661 0) x19_5)) = j_ := ⟨_, rfl⟩
                            replace H : (if (rd t667 x19_5) < 0 then (if x19_5 < (t664.length : Int) then (if (rd t664 x19_5) = (wrap64 (-(ji99))) then (laws_FnPasses.l2 kj85 t610 t628 x11_34 x12_3 t661 t664 t667 (wrap64 (x19_5 + 1)) 8 8 8 0 y623) else (some false)) else (none)) else (if x19_5 < (t664.length : Int) then (if (rd t664 x19_5) = (ji99) then (laws_FnPasses.l2 kj85 t610 t628 x11_34 x12_3 t661 t664 t667 (wrap64 (x19_5 + 1)) 8 8 8 0 y623) else (some false)) else (none))) = some r := by first | (rw [hji99] at H; exact H) | (simp only [hji99] at H ⊢; exact H)
                            (try rw [hji99] at A95)
                            have hji99_ : (IntKind.i64.wrap ((ji97) * 2 ^ min (rd (rd_L3 t661 0) x19_5).toNat 64)) = ji99 := hji99
                            have hji99z : (rd (rd_L3 t661 0) x19_5) ≤ 64 → (IntKind.i64.wrap ((ji97) * 2 ^ (rd (rd_L3 t661 0) x19_5).toNat)) = ji99 := shl_small hji99
                            have hji99y : (wrap64 ((ji97) * 2 ^ min (rd (rd_L3 t661 0) x19_5).toNat 64)) = ji99 := (i64_w _).symm.trans hji99_
                            have hji99x : (rd (rd_L3 t661 0) x19_5) ≤ 64 → (wrap64 ((ji97) * 2 ^ (rd (rd_L3 t661 0) x19_5).toNat)) = ji99 := fun h_ => (i64_w _).symm.trans (hji99z h_)
                            by_cases c100 : (rd t667 x19_5) < 0
                            ·rw [if_pos c100] at H
                             have c100b0 : decide ((rd t667 x19_5) < 0) = true := decide_eq_true c100
                             clear c100
                             by_cases c101 : x19_5 < (t664.length : Int)
                             ·rw [if_pos c101] at H
                              have c101b0 : decide (x19_5 < (t664.length : Int)) = true := decide_eq_true c101
                              clear c101
                              by_cases c102 : (rd t664 x19_5) = (wrap64 (-(ji99)))
                              ·rw [if_pos c102] at H
                               have c102b0 : ((rd t664 x19_5) == (wrap64 (-(ji99)))) = true := beq_iff_eq.mpr c102
                               have c102b1 : ((rd t664 x19_5) != (wrap64 (-(ji99)))) = false := bne_eq_false_iff_eq.mpr c102
                               clear c102
                               have H' := aM H
                               clear H
                               obtain ⟨Ao103, co103, eo103⟩ := Kd.S_slice HO_16.out
                               subst eo103
                               have p670 : 0 ≤ (0 : Int) := (by omega)
                               have q670 : 0 < (t661.length : Int) := zA
                               obtain ⟨ad670, A670_0, c670_0, e670, hx670_0, hl670_0, hi670_0⟩ := at_L3 (Kd.S_reads' HO_16.out).2.2 0 p670 q670
                               cases e670
                               obtain ⟨ce670, hce670, hMe670, hcc670⟩ := Kd.S_get HO_16.out [] 0 p670 (by first | exact q670 | exact zA | (have e_ := (Kd.S_reads' HO_16.out).1; omega))
                               obtain ⟨ve670_0, rfl, ge670_0⟩ := hMe670
                               have hv670_0 := hcc670 0 _ rfl
                               rw [Nat.add_zero, show ((Kd.slice 3 (Kd.int .i64))).sz = 1 from rfl, Nat.mul_one] at hv670_0
                               replace hv670_0 := Option.some.inj (hv670_0.symm.trans hx670_0)
                               rw [hv670_0] at ge670_0
                               have HL670_0 := aM (show Kd.R (Kd.int .i64) 3 _ _ _ _ (rd_L3 t661 0) from ge670_0)
                               clear hv670_0 ge670_0
                               clear hcc670 hce670
                               have qi670 : (0 < t661.length) = True := eq_true (by omega)
                               (try rw [show ((0 : Int)).toNat = 0 from rfl] at hx670_0)
                               (try rw [Addr.add_zero'] at hx670_0)
                               have HR670_0 := aM hi670_0
                               have HC670_0 := aM hl670_0
                               clear hi670_0 hl670_0
                               replace p670 := eq_true p670
                               replace q670 := eq_true q670
                               have p671 : 0 ≤ (x19_5 : Int) := zA
                               have q671 : x19_5 < ((rd_L3 t661 0).length : Int) := zA
                               obtain ⟨ad671, e671, hx671_0⟩ := Kd.at_int (by repeat (first | (with_reducible exact HR670_0.out) | (with_reducible first | refine Kd.C_alloc ?_ _ | refine Kd.C_drewN ?_ _ | refine Kd.C_drew ?_) | exact HR670_0.out)) x19_5 p671 q671
                               cases e671
                               replace p671 := eq_true p671
                               replace q671 := eq_true q671
                               try go_wp2
                               have n0_ := aM (Kd.R_drew HO_5.out)
                               have n1_ := aM (Kd.N_drew HO_10.out)
                               have n2_ := aM (Kd.R_drew HO_11.out)
                               have n3_ := aM (Kd.S_drew HO_16.out)
                               have n4_ := aM (Kd.R_drew HO_17.out)
                               have n5_ := aM (Kd.R_drew HO_18.out)
                               have n6_ := aM (Kd.R_drew HO_621000.out)
                               have n7_ := aM (Kd.R_drew HO_627004.out)
                               have n8_ := aM (Kd.R_drew HL670_0.out)
                               have n9_ := aM (kD BK620.out)
                               have n10_ := aM (kD BK626.out)
                               have n11_ := aM (Kd.C_drew HR635_0.out)
                               have n12_ := aM (Kd.C_drew HR660.out)
                               have n13_ := aM (Kd.C_drew HR670_0.out)
                               have n14_ := aM (b1 HB.out)
                               clear HO_5
                               clear HO_10
                               clear HO_11
                               clear HO_16
                               clear HO_17
                               clear HO_18
                               clear HO_621000
                               clear HO_627004
                               clear HL670_0
                               clear BK620
                               clear BK626
                               clear HR635_0
                               clear HR660
                               clear HR670_0
                               clear HB
                               have HO_5 := n0_
                               have HO_10 := n1_
                               have HO_11 := n2_
                               have HO_16 := n3_
                               have HO_17 := n4_
                               have HO_18 := n5_
                               have HO_621000 := n6_
                               have HO_627004 := n7_
                               have HL670_0 := n8_
                               have BK620 := n9_
                               have BK626 := n10_
                               have HR635_0 := n11_
                               have HR660 := n12_
                               have HR670_0 := n13_
                               have HB := n14_
                               clear n0_ n1_ n2_ n3_ n4_ n5_ n6_ n7_ n8_ n9_ n10_ n11_ n12_ n13_ n14_
                               obtain ⟨Ao105, co105, eo105⟩ := Kd.R_slice HO_18.out
                               (first | subst eo105 | (injection eo105 with f1_ f2_ f3_; have f4_ := f1_.symm; have f5_ := f3_.symm; clear f1_ f2_ f3_; subst f4_; subst f5_))
                               have p672 : 0 ≤ (x19_5 : Int) := zA
                               have q672 : x19_5 < (t667.length : Int) := zA
                               obtain ⟨ad672, e672, hx672_0⟩ := Kd.at_int (Kd.R_reads' HO_18.out).2.2 x19_5 p672 q672
                               cases e672
                               replace p672 := eq_true p672
                               replace q672 := eq_true q672
                               have p674 : 0 ≤ (0 : Int) := (by omega)
                               have q674 : 0 < (t661.length : Int) := zA
                               obtain ⟨ad674, A674_0, c674_0, e674, hx674_0, hl674_0, hi674_0⟩ := at_L3 (Kd.S_reads' HO_16.out).2.2 0 p674 q674
                               obtain rfl : ad670 = ad674 := (by injection e674)
                               obtain ⟨ce674, hce674, hMe674, hcc674⟩ := Kd.S_get HO_16.out [] 0 p674 (by first | exact q674 | exact zA | (have e_ := (Kd.S_reads' HO_16.out).1; omega))
                               obtain ⟨ve674_0, rfl, ge674_0⟩ := hMe674
                               have hv674_0 := hcc674 0 _ rfl
                               rw [Nat.add_zero, show ((Kd.slice 3 (Kd.int .i64))).sz = 1 from rfl, Nat.mul_one] at hv674_0
                               replace hv674_0 := Option.some.inj (hv674_0.symm.trans hx674_0)
                               rw [hv674_0] at ge674_0
                               have HL674_0 := aM (show Kd.R (Kd.int .i64) 3 _ _ _ _ (rd_L3 t661 0) from ge674_0)
                               clear hv674_0 ge674_0
                               clear hcc674 hce674
                               have qi674 : (0 < t661.length) = True := eq_true (by omega)
                               (try rw [show ((0 : Int)).toNat = 0 from rfl] at hx674_0)
                               (try rw [Addr.add_zero'] at hx674_0)
                               have HR674_0 := aM hi674_0
                               have HC674_0 := aM hl674_0
                               clear hi674_0 hl674_0
                               replace p674 := eq_true p674
                               replace q674 := eq_true q674
                               have p675 : 0 ≤ (x19_5 : Int) := zA
                               have q675 : x19_5 < ((rd_L3 t661 0).length : Int) := zA
                               obtain ⟨ad675, e675, hx675_0⟩ := Kd.at_int (by repeat (first | (with_reducible exact HR674_0.out) | (with_reducible first | refine Kd.C_alloc ?_ _ | refine Kd.C_drewN ?_ _ | refine Kd.C_drew ?_) | exact HR674_0.out)) x19_5 p675 q675
                               cases e675
                               replace p675 := eq_true p675
                               replace q675 := eq_true q675
                               have p676 : 0 ≤ (0 : Int) := (by omega)
                               have q676 : 0 < (t661.length : Int) := zA
                               obtain ⟨ad676, A676_0, c676_0, e676, hx676_0, hl676_0, hi676_0⟩ := at_L3 (Kd.S_reads' HO_16.out).2.2 0 p676 q676
                               obtain rfl : ad670 = ad676 := (by injection e676)
                               obtain ⟨ce676, hce676, hMe676, hcc676⟩ := Kd.S_get HO_16.out [] 0 p676 (by first | exact q676 | exact zA | (have e_ := (Kd.S_reads' HO_16.out).1; omega))
                               obtain ⟨ve676_0, rfl, ge676_0⟩ := hMe676
                               have hv676_0 := hcc676 0 _ rfl
                               rw [Nat.add_zero, show ((Kd.slice 3 (Kd.int .i64))).sz = 1 from rfl, Nat.mul_one] at hv676_0
                               replace hv676_0 := Option.some.inj (hv676_0.symm.trans hx676_0)
                               rw [hv676_0] at ge676_0
                               have HL676_0 := aM (show Kd.R (Kd.int .i64) 3 _ _ _ _ (rd_L3 t661 0) from ge676_0)
                               clear hv676_0 ge676_0
                               clear hcc676 hce676
                               have qi676 : (0 < t661.length) = True := eq_true (by omega)
                               (try rw [show ((0 : Int)).toNat = 0 from rfl] at hx676_0)
                               (try rw [Addr.add_zero'] at hx676_0)
                               have HR676_0 := aM hi676_0
                               have HC676_0 := aM hl676_0
                               clear hi676_0 hl676_0
                               replace p676 := eq_true p676
                               replace q676 := eq_true q676
                               have ea_ := Option.some.inj (hx674_0.symm.trans hx676_0)
                               injection ea_ with ea_ en_ ec_
                               subst ea_
                               subst ec_
                               clear en_
                               have p677 : 0 ≤ (x19_5 : Int) := zA
                               have q677 : x19_5 < ((rd_L3 t661 0).length : Int) := zA
                               obtain ⟨ad677, e677, hx677_0⟩ := Kd.at_int (by repeat (first | (with_reducible exact HR676_0.out) | (with_reducible first | refine Kd.C_alloc ?_ _ | refine Kd.C_drewN ?_ _ | refine Kd.C_drew ?_) | exact HR676_0.out)) x19_5 p677 q677
                               cases e677
                               replace p677 := eq_true p677
                               replace q677 := eq_true q677
                               refine start_ (n := 20) (S := fun w' => w'.cell? (ad672.add (x19_5).toNat) = some (.int .i64 (rd t667 x19_5)) ∧ w'.cell? ad670 = some (.slice (some ad675) (rd_L3 t661 0).length c674_0) ∧ w'.cell? (ad675.add (x19_5).toNat) = some (.int .i64 (rd (rd_L3 t661 0) x19_5)) ∧ w'.cell? ad670 = some (.slice (some ad675) (rd_L3 t661 0).length c674_0) ∧ w'.cell? (ad675.add (x19_5).toNat) = some (.int .i64 (rd (rd_L3 t661 0) x19_5))) (ds := []) #[false, false, false, false, false, false, false, false, false, false, false, false, false, false, false, false, false, false, false, false] (by kernel_rfl) rfl rfl ⟨hx672_0, hx674_0, hx675_0, hx676_0, hx677_0⟩ (fun hHeld => ?_); refine with_tabW laws_FnPasses.tab35 laws_FnPasses.bits35 (fun HT_ HW_ => ?_)
                               generalize wc.drew = w104 at HO_5 HO_10 HO_11 HO_16 HO_17 HO_18 HO_621000 HO_627004 HL670_0 BK620 BK626 HR635_0 HR660 HR670_0 HB HL674_0 HL676_0 HR674_0 HR676_0 hx672_0 hx674_0 hx675_0 hx676_0 hx677_0 hHeld ⊢
                               refine zP 0 (some 131) HT_ ?_
                               refine zP 1 (some 132) HT_ ?_
                               refine zP 2 (some 133) HT_ ?_
                               refine zP 5 (some 136) HT_ ?_
                               refine zP 6 (some 137) HT_ ?_
                               refine zP 8 (some 139) HT_ ?_
                               refine zP 12 (some 143) HT_ ?_
                               refine zP 13 (some 144) HT_ ?_
                               refine zP 15 (some 146) HT_ ?_
                               refine zT 3 (some 134) HT_ HW_ hHeld (hy := Or.inl ⟨by rfl, by rintro w' ⟨s0, s1, s2, s3, s4⟩; go_simp; with_reducible rfl⟩) (h := ?_)
                               refine zT 7 (some 138) HT_ HW_ hHeld (hy := Or.inl ⟨by rfl, by rintro w' ⟨s0, s1, s2, s3, s4⟩; go_simp; with_reducible rfl⟩) (h := ?_)
                               refine zP 9 (some 140) HT_ ?_
                               refine zT 10 (some 141) HT_ HW_ hHeld (hy := Or.inl ⟨by rfl, by rintro w' ⟨s0, s1, s2, s3, s4⟩; go_simp; with_reducible rfl⟩) (h := ?_)
                               refine zT 14 (some 145) HT_ HW_ hHeld (hy := Or.inl ⟨by rfl, by rintro w' ⟨s0, s1, s2, s3, s4⟩; go_simp; with_reducible rfl⟩) (h := ?_)
                               refine zP 16 (some 147) HT_ ?_
                               refine zT 17 (some 148) HT_ HW_ hHeld (hy := Or.inl ⟨by rfl, by rintro w' ⟨s0, s1, s2, s3, s4⟩; go_simp; with_reducible rfl⟩) (h := ?_)
                               refine zOn 4 (some 135) HT_ (fun K hK => ?_)
                               refine zGo Try.func38 #[.int .i64 (rd t667 x19_5)] ?_
                               with_reducible refine (laws_abs.calls (rd t667 x19_5) t673 _ A95.out).mono ?_
                               rintro e w' ⟨rfl, ⟨nd, rfl⟩⟩
                               refine ⟨_, rfl, ?_⟩
                               refine hK.out _ _ ⟨hHeld.1, hHeld.2.1, hHeld.2.2.1, hHeld.2.2.2.1, hHeld.2.2.2.2⟩ (fun hHeld => ?_)
                               clear hK K
                               refine zNo (some 135) ?_
                               refine zP 11 (some 142) HT_ ?_
                               refine zP 18 (some 149) HT_ ?_
                               refine zP 19 (some 20) HT_ ?_
                               refine done_ (done_of HT_.out (by kernel_rfl)) ?_
                               have p678 : 0 ≤ (x19_5 : Int) := zA
                               have q678 : x19_5 < (t667.length : Int) := zA
                               obtain ⟨ad678, e678, hx678_0⟩ := Kd.at_int (Kd.R_reads' HO_18.out).2.2 x19_5 p678 q678
                               obtain rfl : ad672 = ad678 := (by injection e678)
                               replace p678 := eq_true p678
                               replace q678 := eq_true q678
                               obtain ⟨Ao106, co106, eo106⟩ := Kd.R_slice HO_17.out
                               subst eo106
                               have p679 : 0 ≤ (x19_5 : Int) := zA
                               have q679 : x19_5 < (t664.length : Int) := zA
                               obtain ⟨ad679, e679, hx679_0⟩ := Kd.at_int (Kd.R_reads' HO_17.out).2.2 x19_5 p679 q679
                               cases e679
                               replace p679 := eq_true p679
                               replace q679 := eq_true q679
                               try go_wp2
                               go_roundg kj85
                               case measure => have := HJ2.out; have := HK2.out; have := HK3.out; have := HJ34.out; have := HK5.out; have := HJ85.out; omega
                               case rel => exact ⟨(wrap64 (x19_5 + 1)), zS, H', ⟨by have := HJ2.out; have := HK2.out; have := HK3.out; have := HJ34.out; have := HK5.out; have := HJ85.out; omega⟩, ⟨by (with_reducible repeat (first | apply Kd.R_alloc | apply Kd.R_drewN | apply Kd.R_drew)); exact HO_5.out⟩, ⟨by (with_reducible repeat (first | apply Kd.N_alloc | apply Kd.N_drewN | apply Kd.N_drew)); exact HO_10.out⟩, ⟨by (with_reducible repeat (first | apply Kd.R_alloc | apply Kd.R_drewN | apply Kd.R_drew)); exact HO_11.out⟩, ⟨by (with_reducible repeat (first | apply Kd.S_alloc | apply Kd.S_drewN | apply Kd.S_drew)); exact HO_16.out⟩, ⟨by (with_reducible repeat (first | apply Kd.R_alloc | apply Kd.R_drewN | apply Kd.R_drew)); exact HO_17.out⟩, ⟨by (with_reducible repeat (first | apply Kd.R_alloc | apply Kd.R_drewN | apply Kd.R_drew)); exact HO_18.out⟩, ⟨by (with_reducible repeat (first | apply Kd.R_alloc | apply Kd.R_drewN | apply Kd.R_drew)); exact HO_621000.out⟩, ⟨by (with_reducible repeat (first | apply Kd.R_alloc | apply Kd.R_drewN | apply Kd.R_drew)); exact HO_627004.out⟩, ⟨zK BK620⟩, ⟨zK BK626⟩, ⟨zC HR635_0.out⟩, ⟨zC HR660.out⟩, ⟨zH⟩⟩
                              ·rw [if_neg c102] at H
                               have c102b0 : ((rd t664 x19_5) == (wrap64 (-(ji99)))) = false := beq_eq_false_iff_ne.mpr c102
                               have c102b1 : ((rd t664 x19_5) != (wrap64 (-(ji99)))) = true := bne_iff_ne.mpr c102
                               exact noArm H HTRUE_.out
                             ·rw [if_neg c101] at H
                              exact absurd H (by simp)
                            ·rw [if_neg c100] at H
                             have c100b0 : decide ((rd t667 x19_5) < 0) = false := decide_eq_false c100
                             clear c100
                             by_cases c107 : x19_5 < (t664.length : Int)
                             ·rw [if_pos c107] at H
                              have c107b0 : decide (x19_5 < (t664.length : Int)) = true := decide_eq_true c107
                              clear c107
                              by_cases c108 : (rd t664 x19_5) = (ji99)
                              ·rw [if_pos c108] at H
                               have c108b0 : ((rd t664 x19_5) == (ji99)) = true := beq_iff_eq.mpr c108
                               have c108b1 : ((rd t664 x19_5) != (ji99)) = false := bne_eq_false_iff_eq.mpr c108
                               clear c108
                               have H' := aM H
                               clear H
                               obtain ⟨Ao109, co109, eo109⟩ := Kd.S_slice HO_16.out
                               subst eo109
                               have p670 : 0 ≤ (0 : Int) := (by omega)
                               have q670 : 0 < (t661.length : Int) := zA
                               obtain ⟨ad670, A670_0, c670_0, e670, hx670_0, hl670_0, hi670_0⟩ := at_L3 (Kd.S_reads' HO_16.out).2.2 0 p670 q670
                               cases e670
                               obtain ⟨ce670, hce670, hMe670, hcc670⟩ := Kd.S_get HO_16.out [] 0 p670 (by first | exact q670 | exact zA | (have e_ := (Kd.S_reads' HO_16.out).1; omega))
                               obtain ⟨ve670_0, rfl, ge670_0⟩ := hMe670
                               have hv670_0 := hcc670 0 _ rfl
                               rw [Nat.add_zero, show ((Kd.slice 3 (Kd.int .i64))).sz = 1 from rfl, Nat.mul_one] at hv670_0
                               replace hv670_0 := Option.some.inj (hv670_0.symm.trans hx670_0)
                               rw [hv670_0] at ge670_0
                               have HL670_0 := aM (show Kd.R (Kd.int .i64) 3 _ _ _ _ (rd_L3 t661 0) from ge670_0)
                               clear hv670_0 ge670_0
                               clear hcc670 hce670
                               have qi670 : (0 < t661.length) = True := eq_true (by omega)
                               (try rw [show ((0 : Int)).toNat = 0 from rfl] at hx670_0)
                               (try rw [Addr.add_zero'] at hx670_0)
                               have HR670_0 := aM hi670_0
                               have HC670_0 := aM hl670_0
                               clear hi670_0 hl670_0
                               replace p670 := eq_true p670
                               replace q670 := eq_true q670
                               have p671 : 0 ≤ (x19_5 : Int) := zA
                               have q671 : x19_5 < ((rd_L3 t661 0).length : Int) := zA
                               obtain ⟨ad671, e671, hx671_0⟩ := Kd.at_int (by repeat (first | (with_reducible exact HR670_0.out) | (with_reducible first | refine Kd.C_alloc ?_ _ | refine Kd.C_drewN ?_ _ | refine Kd.C_drew ?_) | exact HR670_0.out)) x19_5 p671 q671
                               cases e671
                               replace p671 := eq_true p671
                               replace q671 := eq_true q671
                               try go_wp2
                               have n0_ := aM (Kd.R_drew HO_5.out)
                               have n1_ := aM (Kd.N_drew HO_10.out)
                               have n2_ := aM (Kd.R_drew HO_11.out)
                               have n3_ := aM (Kd.S_drew HO_16.out)
                               have n4_ := aM (Kd.R_drew HO_17.out)
                               have n5_ := aM (Kd.R_drew HO_18.out)
                               have n6_ := aM (Kd.R_drew HO_621000.out)
                               have n7_ := aM (Kd.R_drew HO_627004.out)
                               have n8_ := aM (Kd.R_drew HL670_0.out)
                               have n9_ := aM (kD BK620.out)
                               have n10_ := aM (kD BK626.out)
                               have n11_ := aM (Kd.C_drew HR635_0.out)
                               have n12_ := aM (Kd.C_drew HR660.out)
                               have n13_ := aM (Kd.C_drew HR670_0.out)
                               have n14_ := aM (b1 HB.out)
                               clear HO_5
                               clear HO_10
                               clear HO_11
                               clear HO_16
                               clear HO_17
                               clear HO_18
                               clear HO_621000
                               clear HO_627004
                               clear HL670_0
                               clear BK620
                               clear BK626
                               clear HR635_0
                               clear HR660
                               clear HR670_0
                               clear HB
                               have HO_5 := n0_
                               have HO_10 := n1_
                               have HO_11 := n2_
                               have HO_16 := n3_
                               have HO_17 := n4_
                               have HO_18 := n5_
                               have HO_621000 := n6_
                               have HO_627004 := n7_
                               have HL670_0 := n8_
                               have BK620 := n9_
                               have BK626 := n10_
                               have HR635_0 := n11_
                               have HR660 := n12_
                               have HR670_0 := n13_
                               have HB := n14_
                               clear n0_ n1_ n2_ n3_ n4_ n5_ n6_ n7_ n8_ n9_ n10_ n11_ n12_ n13_ n14_
                               obtain ⟨Ao111, co111, eo111⟩ := Kd.R_slice HO_18.out
                               (first | subst eo111 | (injection eo111 with f1_ f2_ f3_; have f4_ := f1_.symm; have f5_ := f3_.symm; clear f1_ f2_ f3_; subst f4_; subst f5_))
                               have p672 : 0 ≤ (x19_5 : Int) := zA
                               have q672 : x19_5 < (t667.length : Int) := zA
                               obtain ⟨ad672, e672, hx672_0⟩ := Kd.at_int (Kd.R_reads' HO_18.out).2.2 x19_5 p672 q672
                               cases e672
                               replace p672 := eq_true p672
                               replace q672 := eq_true q672
                               have p674 : 0 ≤ (0 : Int) := (by omega)
                               have q674 : 0 < (t661.length : Int) := zA
                               obtain ⟨ad674, A674_0, c674_0, e674, hx674_0, hl674_0, hi674_0⟩ := at_L3 (Kd.S_reads' HO_16.out).2.2 0 p674 q674
                               obtain rfl : ad670 = ad674 := (by injection e674)
                               obtain ⟨ce674, hce674, hMe674, hcc674⟩ := Kd.S_get HO_16.out [] 0 p674 (by first | exact q674 | exact zA | (have e_ := (Kd.S_reads' HO_16.out).1; omega))
                               obtain ⟨ve674_0, rfl, ge674_0⟩ := hMe674
                               have hv674_0 := hcc674 0 _ rfl
                               rw [Nat.add_zero, show ((Kd.slice 3 (Kd.int .i64))).sz = 1 from rfl, Nat.mul_one] at hv674_0
                               replace hv674_0 := Option.some.inj (hv674_0.symm.trans hx674_0)
                               rw [hv674_0] at ge674_0
                               have HL674_0 := aM (show Kd.R (Kd.int .i64) 3 _ _ _ _ (rd_L3 t661 0) from ge674_0)
                               clear hv674_0 ge674_0
                               clear hcc674 hce674
                               have qi674 : (0 < t661.length) = True := eq_true (by omega)
                               (try rw [show ((0 : Int)).toNat = 0 from rfl] at hx674_0)
                               (try rw [Addr.add_zero'] at hx674_0)
                               have HR674_0 := aM hi674_0
                               have HC674_0 := aM hl674_0
                               clear hi674_0 hl674_0
                               replace p674 := eq_true p674
                               replace q674 := eq_true q674
                               have p675 : 0 ≤ (x19_5 : Int) := zA
                               have q675 : x19_5 < ((rd_L3 t661 0).length : Int) := zA
                               obtain ⟨ad675, e675, hx675_0⟩ := Kd.at_int (by repeat (first | (with_reducible exact HR674_0.out) | (with_reducible first | refine Kd.C_alloc ?_ _ | refine Kd.C_drewN ?_ _ | refine Kd.C_drew ?_) | exact HR674_0.out)) x19_5 p675 q675
                               cases e675
                               replace p675 := eq_true p675
                               replace q675 := eq_true q675
                               have p676 : 0 ≤ (0 : Int) := (by omega)
                               have q676 : 0 < (t661.length : Int) := zA
                               obtain ⟨ad676, A676_0, c676_0, e676, hx676_0, hl676_0, hi676_0⟩ := at_L3 (Kd.S_reads' HO_16.out).2.2 0 p676 q676
                               obtain rfl : ad670 = ad676 := (by injection e676)
                               obtain ⟨ce676, hce676, hMe676, hcc676⟩ := Kd.S_get HO_16.out [] 0 p676 (by first | exact q676 | exact zA | (have e_ := (Kd.S_reads' HO_16.out).1; omega))
                               obtain ⟨ve676_0, rfl, ge676_0⟩ := hMe676
                               have hv676_0 := hcc676 0 _ rfl
                               rw [Nat.add_zero, show ((Kd.slice 3 (Kd.int .i64))).sz = 1 from rfl, Nat.mul_one] at hv676_0
                               replace hv676_0 := Option.some.inj (hv676_0.symm.trans hx676_0)
                               rw [hv676_0] at ge676_0
                               have HL676_0 := aM (show Kd.R (Kd.int .i64) 3 _ _ _ _ (rd_L3 t661 0) from ge676_0)
                               clear hv676_0 ge676_0
                               clear hcc676 hce676
                               have qi676 : (0 < t661.length) = True := eq_true (by omega)
                               (try rw [show ((0 : Int)).toNat = 0 from rfl] at hx676_0)
                               (try rw [Addr.add_zero'] at hx676_0)
                               have HR676_0 := aM hi676_0
                               have HC676_0 := aM hl676_0
                               clear hi676_0 hl676_0
                               replace p676 := eq_true p676
                               replace q676 := eq_true q676
                               have ea_ := Option.some.inj (hx674_0.symm.trans hx676_0)
                               injection ea_ with ea_ en_ ec_
                               subst ea_
                               subst ec_
                               clear en_
                               have p677 : 0 ≤ (x19_5 : Int) := zA
                               have q677 : x19_5 < ((rd_L3 t661 0).length : Int) := zA
                               obtain ⟨ad677, e677, hx677_0⟩ := Kd.at_int (by repeat (first | (with_reducible exact HR676_0.out) | (with_reducible first | refine Kd.C_alloc ?_ _ | refine Kd.C_drewN ?_ _ | refine Kd.C_drew ?_) | exact HR676_0.out)) x19_5 p677 q677
                               cases e677
                               replace p677 := eq_true p677
                               replace q677 := eq_true q677
                               refine start_ (n := 20) (S := fun w' => w'.cell? (ad672.add (x19_5).toNat) = some (.int .i64 (rd t667 x19_5)) ∧ w'.cell? ad670 = some (.slice (some ad675) (rd_L3 t661 0).length c674_0) ∧ w'.cell? (ad675.add (x19_5).toNat) = some (.int .i64 (rd (rd_L3 t661 0) x19_5)) ∧ w'.cell? ad670 = some (.slice (some ad675) (rd_L3 t661 0).length c674_0) ∧ w'.cell? (ad675.add (x19_5).toNat) = some (.int .i64 (rd (rd_L3 t661 0) x19_5))) (ds := []) #[false, false, false, false, false, false, false, false, false, false, false, false, false, false, false, false, false, false, false, false] (by kernel_rfl) rfl rfl ⟨hx672_0, hx674_0, hx675_0, hx676_0, hx677_0⟩ (fun hHeld => ?_); refine with_tabW laws_FnPasses.tab35 laws_FnPasses.bits35 (fun HT_ HW_ => ?_)
                               generalize wc.drew = w110 at HO_5 HO_10 HO_11 HO_16 HO_17 HO_18 HO_621000 HO_627004 HL670_0 BK620 BK626 HR635_0 HR660 HR670_0 HB HL674_0 HL676_0 HR674_0 HR676_0 hx672_0 hx674_0 hx675_0 hx676_0 hx677_0 hHeld ⊢
                               refine zP 0 (some 131) HT_ ?_
                               refine zP 1 (some 132) HT_ ?_
                               refine zP 2 (some 133) HT_ ?_
                               refine zP 5 (some 136) HT_ ?_
                               refine zP 6 (some 137) HT_ ?_
                               refine zP 8 (some 139) HT_ ?_
                               refine zP 12 (some 143) HT_ ?_
                               refine zP 13 (some 144) HT_ ?_
                               refine zP 15 (some 146) HT_ ?_
                               refine zT 3 (some 134) HT_ HW_ hHeld (hy := Or.inl ⟨by rfl, by rintro w' ⟨s0, s1, s2, s3, s4⟩; go_simp; with_reducible rfl⟩) (h := ?_)
                               refine zT 7 (some 138) HT_ HW_ hHeld (hy := Or.inl ⟨by rfl, by rintro w' ⟨s0, s1, s2, s3, s4⟩; go_simp; with_reducible rfl⟩) (h := ?_)
                               refine zP 9 (some 140) HT_ ?_
                               refine zT 10 (some 141) HT_ HW_ hHeld (hy := Or.inl ⟨by rfl, by rintro w' ⟨s0, s1, s2, s3, s4⟩; go_simp; with_reducible rfl⟩) (h := ?_)
                               refine zT 14 (some 145) HT_ HW_ hHeld (hy := Or.inl ⟨by rfl, by rintro w' ⟨s0, s1, s2, s3, s4⟩; go_simp; with_reducible rfl⟩) (h := ?_)
                               refine zP 16 (some 147) HT_ ?_
                               refine zT 17 (some 148) HT_ HW_ hHeld (hy := Or.inl ⟨by rfl, by rintro w' ⟨s0, s1, s2, s3, s4⟩; go_simp; with_reducible rfl⟩) (h := ?_)
                               refine zOn 4 (some 135) HT_ (fun K hK => ?_)
                               refine zGo Try.func38 #[.int .i64 (rd t667 x19_5)] ?_
                               with_reducible refine (laws_abs.calls (rd t667 x19_5) t673 _ A95.out).mono ?_
                               rintro e w' ⟨rfl, ⟨nd, rfl⟩⟩
                               refine ⟨_, rfl, ?_⟩
                               refine hK.out _ _ ⟨hHeld.1, hHeld.2.1, hHeld.2.2.1, hHeld.2.2.2.1, hHeld.2.2.2.2⟩ (fun hHeld => ?_)
                               clear hK K
                               refine zNo (some 135) ?_
                               refine zP 11 (some 142) HT_ ?_
                               refine zP 18 (some 149) HT_ ?_
                               refine zP 19 (some 20) HT_ ?_
                               refine done_ (done_of HT_.out (by kernel_rfl)) ?_
                               have p678 : 0 ≤ (x19_5 : Int) := zA
                               have q678 : x19_5 < (t667.length : Int) := zA
                               obtain ⟨ad678, e678, hx678_0⟩ := Kd.at_int (Kd.R_reads' HO_18.out).2.2 x19_5 p678 q678
                               obtain rfl : ad672 = ad678 := (by injection e678)
                               replace p678 := eq_true p678
                               replace q678 := eq_true q678
                               obtain ⟨Ao112, co112, eo112⟩ := Kd.R_slice HO_17.out
                               subst eo112
                               have p680 : 0 ≤ (x19_5 : Int) := zA
                               have q680 : x19_5 < (t664.length : Int) := zA
                               obtain ⟨ad680, e680, hx680_0⟩ := Kd.at_int (Kd.R_reads' HO_17.out).2.2 x19_5 p680 q680
                               cases e680
                               replace p680 := eq_true p680
                               replace q680 := eq_true q680
                               try go_wp2
                               go_roundg kj85
                               case measure => have := HJ2.out; have := HK2.out; have := HK3.out; have := HJ34.out; have := HK5.out; have := HJ85.out; omega
                               case rel => exact ⟨(wrap64 (x19_5 + 1)), zS, H', ⟨by have := HJ2.out; have := HK2.out; have := HK3.out; have := HJ34.out; have := HK5.out; have := HJ85.out; omega⟩, ⟨by (with_reducible repeat (first | apply Kd.R_alloc | apply Kd.R_drewN | apply Kd.R_drew)); exact HO_5.out⟩, ⟨by (with_reducible repeat (first | apply Kd.N_alloc | apply Kd.N_drewN | apply Kd.N_drew)); exact HO_10.out⟩, ⟨by (with_reducible repeat (first | apply Kd.R_alloc | apply Kd.R_drewN | apply Kd.R_drew)); exact HO_11.out⟩, ⟨by (with_reducible repeat (first | apply Kd.S_alloc | apply Kd.S_drewN | apply Kd.S_drew)); exact HO_16.out⟩, ⟨by (with_reducible repeat (first | apply Kd.R_alloc | apply Kd.R_drewN | apply Kd.R_drew)); exact HO_17.out⟩, ⟨by (with_reducible repeat (first | apply Kd.R_alloc | apply Kd.R_drewN | apply Kd.R_drew)); exact HO_18.out⟩, ⟨by (with_reducible repeat (first | apply Kd.R_alloc | apply Kd.R_drewN | apply Kd.R_drew)); exact HO_621000.out⟩, ⟨by (with_reducible repeat (first | apply Kd.R_alloc | apply Kd.R_drewN | apply Kd.R_drew)); exact HO_627004.out⟩, ⟨zK BK620⟩, ⟨zK BK626⟩, ⟨zC HR635_0.out⟩, ⟨zC HR660.out⟩, ⟨zH⟩⟩
                              ·rw [if_neg c108] at H
                               have c108b0 : ((rd t664 x19_5) == (ji99)) = false := beq_eq_false_iff_ne.mpr c108
                               have c108b1 : ((rd t664 x19_5) != (ji99)) = true := bne_iff_ne.mpr c108
                               exact noArm H HTRUE_.out
                             ·rw [if_neg c107] at H
                              exact absurd H (by simp)
                           ·rw [if_neg c96] at H
                            exact absurd H (by simp)
                          ·rw [if_neg c94] at H
                           exact absurd H (by simp)
                         ·rw [if_neg c93] at H
                          have c93b0 : decide (0 ≤ (rd (rd_L3 t661 0) x19_5)) = false := decide_eq_false c93
                          clear c93
                          by_cases c113 : x19_5 < (t664.length : Int)
                          ·rw [if_pos c113] at H
                           have c113b0 : decide (x19_5 < (t664.length : Int)) = true := decide_eq_true c113
                           clear c113
                           by_cases c114 : (rd t664 x19_5) = 0
                           ·rw [if_pos c114] at H
                            have c114b0 : ((rd t664 x19_5) == 0) = true := beq_iff_eq.mpr c114
                            have c114b1 : ((rd t664 x19_5) != 0) = false := bne_eq_false_iff_eq.mpr c114
                            clear c114
                            have H' := aM H
                            clear H
                            obtain ⟨Ao115, co115, eo115⟩ := Kd.S_slice HO_16.out
                            subst eo115
                            have p670 : 0 ≤ (0 : Int) := (by omega)
                            have q670 : 0 < (t661.length : Int) := zA
                            obtain ⟨ad670, A670_0, c670_0, e670, hx670_0, hl670_0, hi670_0⟩ := at_L3 (Kd.S_reads' HO_16.out).2.2 0 p670 q670
                            cases e670
                            obtain ⟨ce670, hce670, hMe670, hcc670⟩ := Kd.S_get HO_16.out [] 0 p670 (by first | exact q670 | exact zA | (have e_ := (Kd.S_reads' HO_16.out).1; omega))
                            obtain ⟨ve670_0, rfl, ge670_0⟩ := hMe670
                            have hv670_0 := hcc670 0 _ rfl
                            rw [Nat.add_zero, show ((Kd.slice 3 (Kd.int .i64))).sz = 1 from rfl, Nat.mul_one] at hv670_0
                            replace hv670_0 := Option.some.inj (hv670_0.symm.trans hx670_0)
                            rw [hv670_0] at ge670_0
                            have HL670_0 := aM (show Kd.R (Kd.int .i64) 3 _ _ _ _ (rd_L3 t661 0) from ge670_0)
                            clear hv670_0 ge670_0
                            clear hcc670 hce670
                            have qi670 : (0 < t661.length) = True := eq_true (by omega)
                            (try rw [show ((0 : Int)).toNat = 0 from rfl] at hx670_0)
                            (try rw [Addr.add_zero'] at hx670_0)
                            have HR670_0 := aM hi670_0
                            have HC670_0 := aM hl670_0
                            clear hi670_0 hl670_0
                            replace p670 := eq_true p670
                            replace q670 := eq_true q670
                            have p671 : 0 ≤ (x19_5 : Int) := zA
                            have q671 : x19_5 < ((rd_L3 t661 0).length : Int) := zA
                            obtain ⟨ad671, e671, hx671_0⟩ := Kd.at_int (by repeat (first | (with_reducible exact HR670_0.out) | (with_reducible first | refine Kd.C_alloc ?_ _ | refine Kd.C_drewN ?_ _ | refine Kd.C_drew ?_) | exact HR670_0.out)) x19_5 p671 q671
                            cases e671
                            replace p671 := eq_true p671
                            replace q671 := eq_true q671
                            obtain ⟨Ao116, co116, eo116⟩ := Kd.R_slice HO_17.out
                            subst eo116
                            have p681 : 0 ≤ (x19_5 : Int) := zA
                            have q681 : x19_5 < (t664.length : Int) := zA
                            obtain ⟨ad681, e681, hx681_0⟩ := Kd.at_int (Kd.R_reads' HO_17.out).2.2 x19_5 p681 q681
                            cases e681
                            replace p681 := eq_true p681
                            replace q681 := eq_true q681
                            go_wp2
                            go_roundg kj85
                            case measure => have := HJ2.out; have := HK2.out; have := HK3.out; have := HJ34.out; have := HK5.out; have := HJ85.out; omega
                            case rel => exact ⟨(wrap64 (x19_5 + 1)), zS, H', ⟨by have := HJ2.out; have := HK2.out; have := HK3.out; have := HJ34.out; have := HK5.out; have := HJ85.out; omega⟩, ⟨by (with_reducible repeat (first | apply Kd.R_alloc | apply Kd.R_drewN | apply Kd.R_drew)); exact HO_5.out⟩, ⟨by (with_reducible repeat (first | apply Kd.N_alloc | apply Kd.N_drewN | apply Kd.N_drew)); exact HO_10.out⟩, ⟨by (with_reducible repeat (first | apply Kd.R_alloc | apply Kd.R_drewN | apply Kd.R_drew)); exact HO_11.out⟩, ⟨by (with_reducible repeat (first | apply Kd.S_alloc | apply Kd.S_drewN | apply Kd.S_drew)); exact HO_16.out⟩, ⟨by (with_reducible repeat (first | apply Kd.R_alloc | apply Kd.R_drewN | apply Kd.R_drew)); exact HO_17.out⟩, ⟨by (with_reducible repeat (first | apply Kd.R_alloc | apply Kd.R_drewN | apply Kd.R_drew)); exact HO_18.out⟩, ⟨by (with_reducible repeat (first | apply Kd.R_alloc | apply Kd.R_drewN | apply Kd.R_drew)); exact HO_621000.out⟩, ⟨by (with_reducible repeat (first | apply Kd.R_alloc | apply Kd.R_drewN | apply Kd.R_drew)); exact HO_627004.out⟩, ⟨zK BK620⟩, ⟨zK BK626⟩, ⟨zC HR635_0.out⟩, ⟨zC HR660.out⟩, ⟨zH⟩⟩
                           ·rw [if_neg c114] at H
                            have c114b0 : ((rd t664 x19_5) == 0) = false := beq_eq_false_iff_ne.mpr c114
                            have c114b1 : ((rd t664 x19_5) != 0) = true := bne_iff_ne.mpr c114
                            exact noArm H HTRUE_.out
                          ·rw [if_neg c113] at H
                           exact absurd H (by simp)
                        ·rw [if_neg c92] at H
                         exact absurd H (by simp)
                       ·rw [if_neg c91] at H
                        exact absurd H (by simp)
                      ·rw [if_neg c90] at H
                       exact absurd H (by simp)
                     ·replace c89 := Bool.eq_false_iff.mpr c89
                      subst c89
                      replace H := iF H
                      have H' := aM H
                      clear H
                      go_wp2
                      go_roundg kj85
                      case measure => have := HJ2.out; have := HK2.out; have := HK3.out; have := HJ34.out; have := HK5.out; have := HJ85.out; omega
                      case rel => exact ⟨(x11_34), (wrap64 (x12_3 + 1)), zS, H', ⟨by have := HJ2.out; have := HK2.out; have := HK3.out; have := HJ34.out; have := HK5.out; have := HJ85.out; omega⟩, ⟨by (with_reducible repeat (first | apply Kd.R_alloc | apply Kd.R_drewN | apply Kd.R_drew)); exact Kd.R_mono HO_5.out (fun _ hk => ⟨hk.1, hk.2.2.2⟩)⟩, ⟨by (with_reducible repeat (first | apply Kd.N_alloc | apply Kd.N_drewN | apply Kd.N_drew)); exact Kd.N_mono HO_10.out (fun _ hk => ⟨hk.1, ⟨hk.2.1, ⟨hk.2.2.2.2.2.1, ⟨hk.2.2.2.2.2.2.1, ⟨hk.2.2.2.2.2.2.2.1, hk.2.2.2.2.2.2.2.2⟩⟩⟩⟩⟩)⟩, ⟨by (with_reducible repeat (first | apply Kd.R_alloc | apply Kd.R_drewN | apply Kd.R_drew)); exact Kd.R_mono HO_11.out (fun _ hk => ⟨hk.1, hk.2.2.2⟩)⟩, ⟨by (with_reducible repeat (first | apply Kd.R_alloc | apply Kd.R_drewN | apply Kd.R_drew)); exact Kd.R_mono HO_621000.out (fun _ hk => ⟨hk.1, hk.2.1⟩)⟩, ⟨by (with_reducible repeat (first | apply Kd.R_alloc | apply Kd.R_drewN | apply Kd.R_drew)); exact HO_627004.out⟩, ⟨zK BK620⟩, ⟨zK BK626⟩, ⟨zH⟩⟩
                ·rw [if_neg c76] at H
                 exact absurd H (by simp)
               ·rw [if_neg c75] at H
                exact absurd H (by simp)
            ·rw [if_neg c34] at H
             exact absurd H (by simp)
           ·rw [if_neg c33] at H
            have c33b0 : decide (x12_3 < (t628.length : Int)) = false := decide_eq_false c33
            clear c33
            obtain ⟨t634, A117, H⟩ := oH H
            obtain rfl := Option.some.inj H
            obtain ⟨Ao118, co118, eo118⟩ := Kd.N_slice HO_10.out
            subst eo118
            obtain ⟨Ao119, co119, eo119⟩ := Kd.R_slice HO_11.out
            subst eo119
            go_wp2_with (first | ((with_reducible refine gate_callee (f := 35) rfl ?_); refine zGl (some 165) Try.func35 #[.slice Ao119 x11_3.length co119, .slice Ao13 t610.length co13] ?_; (with_reducible refine (laws_sameInts.calls k3 _ _ x11_3 _ _ t610 t634 _ ?side1 ?side2 ?side3 ?side4 A117.out).mono ?_); (case side1 => exact zC (Kd.R_reads' HO_11.out).2.2); (case side2 => exact (Kd.R_reads' HO_11.out).2.1); (case side3 => exact zC (Kd.R_reads' HO_5.out).2.2); (case side4 => exact (Kd.R_reads' HO_5.out).2.1); rintro e w' ⟨rfl, ⟨nd, rfl⟩⟩; refine ⟨_, rfl, ?_⟩))
            go_ret
            exact ⟨zR, zH⟩
        ·rw [if_neg c21] at H
         exact absurd H (by simp)
       ·replace c18 := Bool.eq_false_iff.mpr c18
        subst c18
        replace H := iF H
        obtain rfl := Option.some.inj H
        go_wp2
        go_ret
        exact ⟨zR, zH⟩


/-- The one pure statement of laws_FnPasses. -/
def laws_FnPasses.Pure : Prop := ∀ (l0 : List Int) (l1 : List Int), (l0.length ≤ maxLen ∧ ∀ y_6 ∈ l0, (Lit.int .u8 y_6).wf = true) → (l1.length ≤ maxLen ∧ ∀ y_6 ∈ l1, (Lit.int .u8 y_6).wf = true) → ∃ k, laws_FnPasses.f k l0 l1 = some true
theorem laws_FnPasses.walk (P : laws_FnPasses.Pure) (A0 : Option Addr) (c0 : Nat) (l0 : List Int) (A1 : Option Addr) (c1 : Nat) (l1 : List Int) (w : World) (hr0 : Kd.C (Kd.int .u8) w A0 l0.length l0) (hc0 : l0.length ≤ c0) (hr1 : Kd.C (Kd.int .u8) w A1 l1.length l1) (hc1 : l1.length ≤ c1) (ql0 : (l0.length ≤ maxLen ∧ ∀ y_6 ∈ l0, (Lit.int .u8 y_6).wf = true)) (ql1 : (l1.length ≤ maxLen ∧ ∀ y_6 ∈ l1, (Lit.int .u8 y_6).wf = true)) :
    Calls Try.prog 7 #[.slice A0 l0.length c0, .slice A1 l1.length c1] w fun e w' => e = .returned (.bool true) ∧ Below w.heap.size w w' := by
  obtain ⟨k, h⟩ := P l0 l1 ql0 ql1
  refine (laws_FnPasses.calls k A0 c0 l0 A1 c1 l1 true w hr0 hc0 hr1 hc1 ⟨rfl⟩ h).mono ?_
  rintro e w' ⟨rfl, hd⟩
  exact ⟨rfl, hd⟩

end Go.Proofs.Ythajjjpblkhmmaa.CP
