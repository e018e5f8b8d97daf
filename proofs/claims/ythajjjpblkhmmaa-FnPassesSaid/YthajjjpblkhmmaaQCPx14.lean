/- Functions that a law of this seat reaches: written by a program of this session (wip/xprint.py), and by hand. -/
import Derived.Test.YthajjjpblkhmmaaQMac
import Derived.Test.YthajjjpblkhmmaaQCPx0
import Derived.Test.YthajjjpblkhmmaaQCPx12
import Derived.Test.YthajjjpblkhmmaaQCPx13
namespace Go.Proofs.Ythajjjpblkhmmaa.CP
open Go.RowKit Go.Proofs.Ythajjjpblkhmmaa.B Go.Proofs.YthajjjpblkhmmaaW.PrintWords Go.Proofs.YthajjjpblkhmmaaW.PrintLast Go.Proofs.YthajjjpblkhmmaaW.PrintMore
attribute [local go_sem] max2_int min2_int max_two min_two max_three min_three max_four min_four   -- for this text's walks alone
set_option linter.unusedVariables false
set_option linter.unusedSimpArgs false

/-! ### spec_l13DrawScan: function 84 -/
def spec_l13DrawScan.j0 : Nat → List Int → Int → Int → Int → Int → Int → Int → Option (List Int × Int × Int × Int × Int × Int × Int)
  | 0, _, _, _, _, _, _, _ => none
  | k + 1, x1000, x1001, x1002, x438001, x438002, x438003, x438004 => (spec_l01Cur_pick.f x1000 x1001 x1002 20).bind fun bt441 => (if bt441.1 = 0 then ((some (([64, wrap64 (x438001 - 1), 63] : List Int) : List Int)).bind fun y444 => ((spec_l01Cur_pick.f x1000 bt441.2.1 bt441.2.2 3).bind fun bt447 => (if 0 ≤ bt447.1 then (if bt447.1 < (y444.length : Int) then (some (([] : List Int), x438001, rd y444 bt447.1, x438003, x438004, bt447.2.1, bt447.2.2)) else (none)) else (none)))) else (if bt441.1 = 1 then ((some (([13, 14, (-1)] : List Int) : List Int)).bind fun y451 => ((spec_l01Cur_pick.f x1000 bt441.2.1 bt441.2.2 3).bind fun bt454 => (if 0 ≤ bt454.1 then (if bt454.1 < (y451.length : Int) then (some (([] : List Int), x438001, x438002, x438003, rd y451 bt454.1, bt454.2.1, bt454.2.2)) else (none)) else (none)))) else (if bt441.1 = 2 then ((spec_l01Cur_pick.f x1000 bt441.2.1 bt441.2.2 4).bind fun bt458 => (some (([] : List Int), x438001, x438002, bt458.1, x438004, bt458.2.1, bt458.2.2))) else (some (([] : List Int), x438001, x438002, x438003, x438004, bt441.2.1, bt441.2.2)))))
def spec_l13DrawScan.f (k : Nat) (s0_0 : List Int) (s0_1 : Int) (s0_2 : Int) (a1 : Bool) : Option (List Int × Int × Int × Int × Int × Int × Int) := (spec_l01Cur_pick.f s0_0 s0_1 s0_2 64).bind fun bt431 => ((spec_l01Cur_pick.f s0_0 bt431.2.1 bt431.2.2 5).bind fun bt434 => ((spec_l01Cur_pick.f s0_0 bt434.2.1 bt434.2.2 (wrap64 (64 - bt431.1))).bind fun bt438 => (if a1 = true then (spec_l13DrawScan.j0 k s0_0 bt438.2.1 bt438.2.2 bt431.1 (wrap64 (bt431.1 + bt438.1)) 0 bt434.1) else (spec_l13DrawScan.j0 k s0_0 bt438.2.1 bt438.2.2 bt431.1 (wrap64 (bt431.1 + bt438.1)) (wrap64 (bt434.1 + 1)) bt434.1))))
def spec_l13DrawScan.T2 : Bool × List (List Nat × List Nat) := (true, [([], []), ([0], [0]), ([], []), ([], []), ([3], [3]), ([4], [4]), ([2, 5], [2, 5]), ([1, 6], [1, 6]), ([0, 1, 2, 3, 4, 5, 6, 7], []), ([8, 7, 6, 0, 1, 2, 3, 4, 5, 6, 7], [7, 8])])
def spec_l13DrawScan.B2 : List Nat := [0, 1, 0, 0, 8, 24, 60, 127, 255, 511]
theorem spec_l13DrawScan.tab2 : rtab .any (opsOf Try.f84 2) = spec_l13DrawScan.T2 := by kernel_rfl
theorem spec_l13DrawScan.bits2 : waitsOk spec_l13DrawScan.T2.2 spec_l13DrawScan.B2 = true := by kernel_rfl
def spec_l13DrawScan.T7 : Bool × List (List Nat × List Nat) := (true, [([], []), ([0], [0]), ([1], [1]), ([2], [2]), ([], []), ([4], [4]), ([3, 5], [3, 5]), ([6], [6]), ([0, 1, 2, 3, 4, 5, 6, 7], []), ([8, 7, 5, 0, 1, 2, 3, 4, 5, 6, 7], [7, 8])])
def spec_l13DrawScan.B7 : List Nat := [0, 1, 3, 7, 0, 16, 63, 127, 255, 511]
theorem spec_l13DrawScan.tab7 : rtab .any (opsOf Try.f84 7) = spec_l13DrawScan.T7 := by kernel_rfl
theorem spec_l13DrawScan.bits7 : waitsOk spec_l13DrawScan.T7.2 spec_l13DrawScan.B7 = true := by kernel_rfl
set_option maxHeartbeats 8000000 in
set_option maxRecDepth 100000 in
theorem spec_l13DrawScan.calls (k : Nat) (g : Nat) (s0_0 : List Int) (s0_1 : Int) (s0_2 : Int) (a1 : Bool) (r1 : List Int) (r2 : Int) (r3 : Int) (r4 : Int) (r5 : Int) (r6 : Int) (r7 : Int) (w0 w : World) (hI : IsS126 w0 w g s0_0 s0_1 s0_2) (hB : Below w0.heap.size w0 w) (h : spec_l13DrawScan.f k s0_0 s0_1 s0_2 a1 = some (r1, r2, r3, r4, r5, r6, r7)) :
  Calls Try.prog 84 #[.pointer (some ⟨g, 0, none⟩), .bool a1] w fun e w' => ∃ v0_ : Value, e = .returned (.agg #[v0_, .int .i64 r2, .int .i64 r3, .int .i64 r4, .int .i64 r5]) ∧ Kd.R (Kd.int .i64) 3 w' w.heap.size (fun _ => True) v0_ r1 ∧ IsS126 w0 w' g s0_0 r6 r7 ∧ Below w0.heap.size w0 w' ∧ KeepBut w w' g none := by
 have hu28 := Try.underlying28
 have HI0 := aM hI
 have HK := aM (KeepBut.refl w g none)
 have HL := aM hB.size
 clear hI
 have HW0 := aM hB.size
 have HB := aM hB
 clear hB
 have H : ((spec_l01Cur_pick.f s0_0 s0_1 s0_2 64).bind fun bt431 => ((spec_l01Cur_pick.f s0_0 bt431.2.1 bt431.2.2 5).bind fun bt434 => ((spec_l01Cur_pick.f s0_0 bt434.2.1 bt434.2.2 (wrap64 (64 - bt431.1))).bind fun bt438 => (if a1 = true then (spec_l13DrawScan.j0 k s0_0 bt438.2.1 bt438.2.2 bt431.1 (wrap64 (bt431.1 + bt438.1)) 0 bt434.1) else (spec_l13DrawScan.j0 k s0_0 bt438.2.1 bt438.2.2 bt431.1 (wrap64 (bt431.1 + bt438.1)) (wrap64 (bt434.1 + 1)) bt434.1))))) = some (r1, r2, r3, r4, r5, r6, r7) := h
 clear h
 replace H := oB H
 obtain ⟨⟨t431, t432, t433⟩, A30, H⟩ := H
 replace H : ((spec_l01Cur_pick.f s0_0 t432 t433 5).bind fun bt434 => ((spec_l01Cur_pick.f s0_0 bt434.2.1 bt434.2.2 (wrap64 (64 - t431))).bind fun bt438 => (if a1 = true then (spec_l13DrawScan.j0 k s0_0 bt438.2.1 bt438.2.2 t431 (wrap64 (t431 + bt438.1)) 0 bt434.1) else (spec_l13DrawScan.j0 k s0_0 bt438.2.1 bt438.2.2 t431 (wrap64 (t431 + bt438.1)) (wrap64 (bt434.1 + 1)) bt434.1)))) = some (r1, r2, r3, r4, r5, r6, r7) := H
 have A3 := aM A30
 clear A30
 replace H := oB H
 obtain ⟨⟨t434, t435, t436⟩, A40, H⟩ := H
 replace H : ((spec_l01Cur_pick.f s0_0 t435 t436 (wrap64 (64 - t431))).bind fun bt438 => (if a1 = true then (spec_l13DrawScan.j0 k s0_0 bt438.2.1 bt438.2.2 t431 (wrap64 (t431 + bt438.1)) 0 t434) else (spec_l13DrawScan.j0 k s0_0 bt438.2.1 bt438.2.2 t431 (wrap64 (t431 + bt438.1)) (wrap64 (t434 + 1)) t434))) = some (r1, r2, r3, r4, r5, r6, r7) := H
 have A4 := aM A40
 clear A40
 replace H := oB H
 obtain ⟨⟨t438, t439, t440⟩, A50, H⟩ := H
 replace H : (if a1 = true then (spec_l13DrawScan.j0 k s0_0 t439 t440 t431 (wrap64 (t431 + t438)) 0 t434) else (spec_l13DrawScan.j0 k s0_0 t439 t440 t431 (wrap64 (t431 + t438)) (wrap64 (t434 + 1)) t434)) = some (r1, r2, r3, r4, r5, r6, r7) := H
 have A5 := aM A50
 clear A50
 have HC6 := aM H
 clear H
 go_enter Try.func84, Try.ntmps84
 try go_wp2_with (first | ((with_reducible refine gate_dst (N := 4) rfl ?_); refine box_event ?hg (N := 4) ?hd (cs := #[.slice none 0 0, .int .i64 0, .int .i64 0, .int .i64 0, .int .i64 0]) (t := 28) ?hr ?_; (case hd => rfl); (case hg => rfl); (case hr => first | (go_simp; done) | (go_simp; rfl)); intro gb430 hg w7 hbox hb; replace HB := aM (below_step (by repeat (first | (with_reducible first | exact HB.out | apply bA | apply bN | apply b1 | refine bS ?_ (IsS126.ge HI0.out)) | exact HB.out)) hb); have BK430 := aM hbox; have GW430 := aM ((by rw [hg]; exact (keep_size (w := w) (g := g) (row := none) (by repeat (first | (with_reducible first | exact HK.out | apply KeepBut.set_ | apply keep_drewN | apply keep_drew | apply keep_alloc) | exact HK.out))) : w.heap.size ≤ gb430)); have GE430 := aM ((Nat.le_trans HW0.out (by rw [hg]; exact (keep_size (w := w) (g := g) (row := none) (by repeat (first | (with_reducible first | exact HK.out | apply KeepBut.set_ | apply keep_drewN | apply keep_drew | apply keep_alloc) | exact HK.out))) : w.heap.size ≤ gb430) : w0.heap.size ≤ gb430)); replace HK := aM (KeepBut.trans (by repeat (first | (with_reducible first | exact HK.out | apply KeepBut.set_ | apply keep_drewN | apply keep_drew | apply keep_alloc) | exact HK.out)) (KeepBut.of_below hb g none) (.inl rfl)); have NB0_430 := aM ((by rw [hg]; exact Nat.ne_of_lt (IsS126.lt (show IsS126 w0 _ g s0_0 s0_1 s0_2 from by repeat (first | (with_reducible first | exact HI0.out | apply IsS126.alloc | apply IsS126.drewN | apply IsS126.drew | apply IsS126.set_1 | apply IsS126.set_2) | exact HI0.out))) : g ≠ gb430)); have NB430_0 := aM ((by rw [hg]; exact Nat.ne_of_gt (IsS126.lt (show IsS126 w0 _ g s0_0 s0_1 s0_2 from by repeat (first | (with_reducible first | exact HI0.out | apply IsS126.alloc | apply IsS126.drewN | apply IsS126.drew | apply IsS126.set_1 | apply IsS126.set_2) | exact HI0.out))) : gb430 ≠ g)); replace HI0 := aM (IsS126.below (by repeat (first | (with_reducible first | exact HI0.out | apply IsS126.alloc | apply IsS126.drewN | apply IsS126.drew | apply IsS126.set_1 | apply IsS126.set_2) | exact HI0.out)) hb); clear hb hbox hg) | ((with_reducible refine gate_callee (f := 122) rfl ?_); refine zGl (some 7) Try.func122 #[.pointer (some ⟨g, 0, none⟩), .int .i64 64] ?_; (with_reducible refine (spec_l01Cur_pick.calls g s0_0 s0_1 s0_2 64 t431 t432 t433 w0 _ ?side1 ?side2 A3.out).mono ?_); (case side1 => repeat (first | (with_reducible first | exact HI0.out | apply IsS126.alloc | apply IsS126.drewN | apply IsS126.drew | apply IsS126.set_1 | apply IsS126.set_2 | refine IsS126.far ?_ NB0_430.out _) | exact HI0.out)); (case side2 => repeat (first | (with_reducible first | exact HB.out | apply bA | apply bN | apply b1 | refine bS ?_ (IsS126.ge HI0.out) | refine bS ?_ GE430.out) | exact HB.out)); rintro e w8 ⟨rfl, hi, hb, hk⟩; refine ⟨_, rfl, ?_⟩; replace BK430 := aM (KeepBut.blk hk (g' := gb430) (o := .cells #[.slice none 0 0, .int .i64 0, .int .i64 0, .int .i64 0, .int .i64 0] 28 (0, 0)) (zK BK430) NB430_0.out (by simp)); replace HK := aM (KeepBut.trans (by repeat (first | (with_reducible first | exact HK.out | apply KeepBut.set_ | apply keep_drewN | apply keep_drew | apply keep_alloc | refine keep_far ?_ GW430.out _) | exact HK.out)) hk (.inl rfl)); replace HB := aM (hb); replace HI0 := aM (hi); (try clear hb); (try clear hk); (try clear hi)) | ((with_reducible refine gate_callee (f := 122) rfl ?_); refine zGl (some 9) Try.func122 #[.pointer (some ⟨g, 0, none⟩), .int .i64 5] ?_; (with_reducible refine (spec_l01Cur_pick.calls g s0_0 t432 t433 5 t434 t435 t436 w0 _ ?side1 ?side2 A4.out).mono ?_); (case side1 => repeat (first | (with_reducible first | exact HI0.out | apply IsS126.alloc | apply IsS126.drewN | apply IsS126.drew | apply IsS126.set_1 | apply IsS126.set_2 | refine IsS126.far ?_ NB0_430.out _) | exact HI0.out)); (case side2 => repeat (first | (with_reducible first | exact HB.out | apply bA | apply bN | apply b1 | refine bS ?_ (IsS126.ge HI0.out) | refine bS ?_ GE430.out) | exact HB.out)); rintro e w9 ⟨rfl, hi, hb, hk⟩; refine ⟨_, rfl, ?_⟩; replace BK430 := aM (KeepBut.blk hk (g' := gb430) (o := .cells #[.slice none 0 0, .int .i64 0, .int .i64 0, .int .i64 0, .int .i64 0] 28 (0, 0)) (zK BK430) NB430_0.out (by simp)); replace HK := aM (KeepBut.trans (by repeat (first | (with_reducible first | exact HK.out | apply KeepBut.set_ | apply keep_drewN | apply keep_drew | apply keep_alloc | refine keep_far ?_ GW430.out _) | exact HK.out)) hk (.inl rfl)); replace HB := aM (hb); replace HI0 := aM (hi); (try clear hb); (try clear hk); (try clear hi)) | ((with_reducible refine gate_dst (N := 5) rfl ?_); refine box_event ?hg (N := 5) ?hd (cs := #[.slice none 0 0, .int .i64 0, .int .i64 0, .int .i64 0, .int .i64 0]) (t := 28) ?hr ?_; (case hd => rfl); (case hg => rfl); (case hr => first | (go_simp; done) | (go_simp; rfl)); intro gb437 hg w10 hbox hb; replace HB := aM (below_step (by repeat (first | (with_reducible first | exact HB.out | apply bA | apply bN | apply b1 | refine bS ?_ (IsS126.ge HI0.out) | refine bS ?_ GE430.out) | exact HB.out)) hb); have BK437 := aM hbox; have GW437 := aM ((by rw [hg]; exact (keep_size (w := w) (g := g) (row := none) (by repeat (first | (with_reducible first | exact HK.out | apply KeepBut.set_ | apply keep_drewN | apply keep_drew | apply keep_alloc | refine keep_far ?_ GW430.out _) | exact HK.out))) : w.heap.size ≤ gb437)); have GE437 := aM ((Nat.le_trans HW0.out (by rw [hg]; exact (keep_size (w := w) (g := g) (row := none) (by repeat (first | (with_reducible first | exact HK.out | apply KeepBut.set_ | apply keep_drewN | apply keep_drew | apply keep_alloc | refine keep_far ?_ GW430.out _) | exact HK.out))) : w.heap.size ≤ gb437) : w0.heap.size ≤ gb437)); replace HK := aM (KeepBut.trans (by repeat (first | (with_reducible first | exact HK.out | apply KeepBut.set_ | apply keep_drewN | apply keep_drew | apply keep_alloc | refine keep_far ?_ GW430.out _) | exact HK.out)) (KeepBut.of_below hb g none) (.inl rfl)); have NB430_437 := aM ((zL hg BK430)); have NB437_430 := aM ((zM hg BK430)); replace BK430 := cB BK430 hb; have NB0_437 := aM ((by rw [hg]; exact Nat.ne_of_lt (IsS126.lt (show IsS126 w0 _ g s0_0 t435 t436 from by repeat (first | (with_reducible first | exact HI0.out | apply IsS126.alloc | apply IsS126.drewN | apply IsS126.drew | apply IsS126.set_1 | apply IsS126.set_2 | refine IsS126.far ?_ NB0_430.out _) | exact HI0.out))) : g ≠ gb437)); have NB437_0 := aM ((by rw [hg]; exact Nat.ne_of_gt (IsS126.lt (show IsS126 w0 _ g s0_0 t435 t436 from by repeat (first | (with_reducible first | exact HI0.out | apply IsS126.alloc | apply IsS126.drewN | apply IsS126.drew | apply IsS126.set_1 | apply IsS126.set_2 | refine IsS126.far ?_ NB0_430.out _) | exact HI0.out))) : gb437 ≠ g)); replace HI0 := aM (IsS126.below (by repeat (first | (with_reducible first | exact HI0.out | apply IsS126.alloc | apply IsS126.drewN | apply IsS126.drew | apply IsS126.set_1 | apply IsS126.set_2 | refine IsS126.far ?_ NB0_430.out _) | exact HI0.out)) hb); clear hb hbox hg; have hnb11 := NB437_430.out; have hnc11 := NB430_437.out; have hnb12 := NB437_0.out; have hnc12 := NB0_437.out; obtain ⟨hcz13_0, hcz13_1, hcz13_2, hcz13_3, hcz13_4⟩ := kk5 BK437; obtain ⟨hfz13_0, hfz13_1, hfz13_2, hfz13_3, hfz13_4⟩ := kg5 BK437))
 have n0_ : Aside0 ((((((w10.setCell ⟨gb437, 0, none⟩ (.slice none 0 0)).setCell ⟨gb437, 1, none⟩ (.int .i64 t431)).setCell ⟨gb437, 2, none⟩ (.int .i64 0)).setCell ⟨gb437, 3, none⟩ (.int .i64 0)).setCell ⟨gb437, 4, none⟩ (.int .i64 t434)).heap[gb430]? = some (.cells #[.slice none 0 0, .int .i64 0, .int .i64 0, .int .i64 0, .int .i64 0] 28 (0, 0))) := ⟨by (with_reducible repeat (first | apply kN | apply kD | apply kA)); refine blk_far ?_ NB430_437.out _; (with_reducible repeat (first | apply kN | apply kD | apply kA)); refine blk_far ?_ NB430_437.out _; (with_reducible repeat (first | apply kN | apply kD | apply kA)); refine blk_far ?_ NB430_437.out _; (with_reducible repeat (first | apply kN | apply kD | apply kA)); refine blk_far ?_ NB430_437.out _; (with_reducible repeat (first | apply kN | apply kD | apply kA)); refine blk_far ?_ NB430_437.out _; (with_reducible repeat (first | apply kN | apply kD | apply kA)); exact BK430.out⟩
 have n1_ : Aside0 ((((((w10.setCell ⟨gb437, 0, none⟩ (.slice none 0 0)).setCell ⟨gb437, 1, none⟩ (.int .i64 t431)).setCell ⟨gb437, 2, none⟩ (.int .i64 0)).setCell ⟨gb437, 3, none⟩ (.int .i64 0)).setCell ⟨gb437, 4, none⟩ (.int .i64 t434)).heap[gb437]? = some (.cells #[.slice none 0 0, .int .i64 t431, .int .i64 0, .int .i64 0, .int .i64 t434] 28 (0, 0))) := ⟨by (with_reducible repeat (first | apply kN | apply kD | apply kA)); refine blk_put (cs := #[.slice none 0 0, .int .i64 t431, .int .i64 0, .int .i64 0, .int .i64 0]) ?_ 4 _ rfl; (with_reducible repeat (first | apply kN | apply kD | apply kA)); refine blk_put (cs := #[.slice none 0 0, .int .i64 t431, .int .i64 0, .int .i64 0, .int .i64 0]) ?_ 3 _ rfl; (with_reducible repeat (first | apply kN | apply kD | apply kA)); refine blk_put (cs := #[.slice none 0 0, .int .i64 t431, .int .i64 0, .int .i64 0, .int .i64 0]) ?_ 2 _ rfl; (with_reducible repeat (first | apply kN | apply kD | apply kA)); refine blk_put (cs := #[.slice none 0 0, .int .i64 0, .int .i64 0, .int .i64 0, .int .i64 0]) ?_ 1 _ rfl; (with_reducible repeat (first | apply kN | apply kD | apply kA)); refine blk_put (cs := #[.slice none 0 0, .int .i64 0, .int .i64 0, .int .i64 0, .int .i64 0]) ?_ 0 _ rfl; (with_reducible repeat (first | apply kN | apply kD | apply kA)); exact BK437.out⟩
 have n2_ : Aside0 (IsS126 w0 (((((w10.setCell ⟨gb437, 0, none⟩ (.slice none 0 0)).setCell ⟨gb437, 1, none⟩ (.int .i64 t431)).setCell ⟨gb437, 2, none⟩ (.int .i64 0)).setCell ⟨gb437, 3, none⟩ (.int .i64 0)).setCell ⟨gb437, 4, none⟩ (.int .i64 t434)) g s0_0 t435 t436) := ⟨by repeat (first | (with_reducible first | exact HI0.out | apply IsS126.alloc | apply IsS126.drewN | apply IsS126.drew | apply IsS126.set_1 | apply IsS126.set_2 | refine IsS126.far ?_ NB0_430.out _ | refine IsS126.far ?_ NB0_437.out _) | exact HI0.out)⟩
 have n3_ : Aside0 (KeepBut w (((((w10.setCell ⟨gb437, 0, none⟩ (.slice none 0 0)).setCell ⟨gb437, 1, none⟩ (.int .i64 t431)).setCell ⟨gb437, 2, none⟩ (.int .i64 0)).setCell ⟨gb437, 3, none⟩ (.int .i64 0)).setCell ⟨gb437, 4, none⟩ (.int .i64 t434)) g none) := ⟨by repeat (first | (with_reducible first | exact HK.out | apply KeepBut.set_ | apply keep_drewN | apply keep_drew | apply keep_alloc | refine keep_far ?_ GW430.out _ | refine keep_far ?_ GW437.out _) | exact HK.out)⟩
 have n4_ : Aside0 (Below w0.heap.size w0 (((((w10.setCell ⟨gb437, 0, none⟩ (.slice none 0 0)).setCell ⟨gb437, 1, none⟩ (.int .i64 t431)).setCell ⟨gb437, 2, none⟩ (.int .i64 0)).setCell ⟨gb437, 3, none⟩ (.int .i64 0)).setCell ⟨gb437, 4, none⟩ (.int .i64 t434))) := ⟨by repeat (first | (with_reducible first | exact HB.out | apply bA | apply bN | apply b1 | refine bS ?_ (IsS126.ge HI0.out) | refine bS ?_ GE430.out | refine bS ?_ GE437.out) | exact HB.out)⟩
 (try clear BK430)
 (try clear BK437)
 (try clear HI0)
 (try clear HK)
 (try clear HB)
 generalize (((((w10.setCell ⟨gb437, 0, none⟩ (.slice none 0 0)).setCell ⟨gb437, 1, none⟩ (.int .i64 t431)).setCell ⟨gb437, 2, none⟩ (.int .i64 0)).setCell ⟨gb437, 3, none⟩ (.int .i64 0)).setCell ⟨gb437, 4, none⟩ (.int .i64 t434)) = w14 at n0_ n1_ n2_ n3_ n4_ ⊢
 have BK430 := n0_
 have BK437 := n1_
 have HI0 := n2_
 have HK := n3_
 have HB := n4_
 clear n0_ n1_ n2_ n3_ n4_
 have n0_ := aM (kD BK430.out)
 have n1_ := aM (kD BK437.out)
 have n2_ := aM (IsS126.drew HI0.out)
 have n3_ := aM (keep_drew HK.out)
 have n4_ := aM (b1 HB.out)
 clear BK430
 clear BK437
 clear HI0
 clear HK
 clear HB
 have BK430 := n0_
 have BK437 := n1_
 have HI0 := n2_
 have HK := n3_
 have HB := n4_
 clear n0_ n1_ n2_ n3_ n4_
 refine start_ (n := 10) (S := fun w' => w'.cell? ⟨gb437, 0, none⟩ = some (.slice none 0 0) ∧ w'.cell? ⟨gb437, 1, none⟩ = some (.int .i64 t431) ∧ w'.cell? ⟨gb437, 2, none⟩ = some (.int .i64 0) ∧ w'.cell? ⟨gb437, 3, none⟩ = some (.int .i64 0) ∧ w'.cell? ⟨gb437, 4, none⟩ = some (.int .i64 t434)) (ds := [9]) #[false, false, false, false, false, false, false, false, false, false] (by kernel_rfl) rfl rfl ⟨(kC BK437.out 0).trans rfl, (kC BK437.out 1).trans rfl, (kC BK437.out 2).trans rfl, (kC BK437.out 3).trans rfl, (kC BK437.out 4).trans rfl⟩ (fun hHeld => ?_); refine with_tabW spec_l13DrawScan.tab2 spec_l13DrawScan.bits2 (fun HT_ HW_ => ?_)
 generalize w14.drew = w15 at BK430 BK437 HI0 HK HB hHeld ⊢
 refine zP 0 (some 11) HT_ ?_
 refine zP 2 (some 13) HT_ ?_
 refine zP 3 (some 14) HT_ ?_
 refine zT 1 (some 12) HT_ HW_ hHeld (hy := Or.inl ⟨by rfl, by rintro w' ⟨s0, s1, s2, s3, s4⟩; go_simp; with_reducible rfl⟩) (h := ?_)
 refine zT 4 (some 15) HT_ HW_ hHeld (hy := Or.inl ⟨by rfl, by rintro w' ⟨s0, s1, s2, s3, s4⟩; go_simp; with_reducible rfl⟩) (h := ?_)
 refine zP 5 (some 16) HT_ ?_
 refine zOn 6 (some 17) HT_ (fun K hK => ?_)
 refine zGo Try.func122 #[.pointer (some ⟨g, 0, none⟩), .int .i64 (wrap64 (64 - t431))] ?_
 with_reducible refine (spec_l01Cur_pick.calls g s0_0 t435 t436 (wrap64 (64 - t431)) t438 t439 t440 w0 _ ?side1 ?side2 A5.out).mono ?_
 (case side1 => repeat (first | (with_reducible first | exact HI0.out | apply IsS126.alloc | apply IsS126.drewN | apply IsS126.drew | apply IsS126.set_1 | apply IsS126.set_2 | refine IsS126.far ?_ NB0_430.out _ | refine IsS126.far ?_ NB0_437.out _) | exact HI0.out))
 (case side2 => repeat (first | (with_reducible first | exact HB.out | apply bA | apply bN | apply b1 | refine bS ?_ (IsS126.ge HI0.out) | refine bS ?_ GE430.out | refine bS ?_ GE437.out) | exact HB.out))
 rintro e w16 ⟨rfl, hi, hb, hk⟩
 refine ⟨_, rfl, ?_⟩
 have n0_ := aM (KeepBut.blk hk (g' := gb430) (o := .cells #[.slice none 0 0, .int .i64 0, .int .i64 0, .int .i64 0, .int .i64 0] 28 (0, 0)) (zK BK430) NB430_0.out (by simp))
 have n1_ := aM (KeepBut.blk hk (g' := gb437) (o := .cells #[.slice none 0 0, .int .i64 t431, .int .i64 0, .int .i64 0, .int .i64 t434] 28 (0, 0)) (zK BK437) NB437_0.out (by simp))
 have n2_ := aM (KeepBut.trans (by repeat (first | (with_reducible first | exact HK.out | apply KeepBut.set_ | apply keep_drewN | apply keep_drew | apply keep_alloc | refine keep_far ?_ GW430.out _ | refine keep_far ?_ GW437.out _) | exact HK.out)) hk (.inl rfl))
 have n3_ := aM (hb)
 have n4_ := aM (hi)
 clear BK430
 clear BK437
 clear HK
 clear HB
 clear HI0
 have BK430 := n0_
 have BK437 := n1_
 have HK := n2_
 have HB := n3_
 have HI0 := n4_
 clear n0_ n1_ n2_ n3_ n4_
 (try clear hb)
 (try clear hb2)
 (try clear hk)
 (try clear hi)
 refine hK.out _ _ ⟨(kC BK437.out 0).trans rfl, (kC BK437.out 1).trans rfl, (kC BK437.out 2).trans rfl, (kC BK437.out 3).trans rfl, (kC BK437.out 4).trans rfl⟩ (fun hHeld => ?_)
 clear hK K
 refine zNo (some 17) ?_
 refine zP 7 (some 18) HT_ ?_
 refine zP 8 (some 19) HT_ ?_
 refine last_ (i := 9) (N := none) #[true, true, true, true, true, true, true, true, true, true] rfl rfl (one_of HT_.out (by kernel_rfl)) (by decide) (fun K hK => ?_)
 have hs17 : w16.cell? ⟨gb437, 2, none⟩ = some (.int .i64 0) := (kC BK437.out 2).trans rfl
 have hfs17 := blk_frozen BK437.out 2
 have hns17_0 := NB430_437.out
 have hms17_0 := NB437_430.out
 refine skip_ (w1 := ?_) (by rfl) rfl ?_ ?_
 rotate_left
 ·go_simp
  rfl
 refine hK.out _ _ ?_
 clear hK K
 refine done_ (done_of HT_.out (by kernel_rfl)) ?_
 go_upto_if 21 with (fail)
 go_cut [] (fun wc => ∃ (kq : Nat) (x438003_5 : Int), Aside0 (spec_l13DrawScan.j0 kq s0_0 t439 t440 t431 (wrap64 (t431 + t438)) x438003_5 t434 = some (r1, r2, r3, r4, r5, r6, r7)) ∧ Aside0 (kq ≤ k) ∧ Aside0 (wc.heap[gb430]? = some (.cells #[(.slice none 0 0), .int .i64 0, .int .i64 0, .int .i64 0, .int .i64 0] 28 (0, 0))) ∧ Aside0 (wc.heap[gb437]? = some (.cells #[(.slice none 0 0), .int .i64 t431, .int .i64 (wrap64 (t431 + t438)), .int .i64 x438003_5, .int .i64 t434] 28 (0, 0))) ∧ Aside0 (IsS126 w0 wc g s0_0 t439 t440) ∧ Aside0 (KeepBut w wc g none) ∧ Aside0 (Below w0.heap.size w0 wc))
 case first =>
  have H := HC6.out
  clear HC6
  by_cases c18 : a1 = true
  ·subst c18
   replace H := iT H
   have H' := aM H
   clear H
   go_wp2
   go_meet
   case rel => exact ⟨_, (0), H', zO, ⟨by (with_reducible repeat (first | apply kN | apply kD | apply kA)); refine blk_far ?_ NB430_437.out _; (with_reducible repeat (first | apply kN | apply kD | apply kA)); exact BK430.out⟩, ⟨by (with_reducible repeat (first | apply kN | apply kD | apply kA)); refine blk_put (cs := #[.slice none 0 0, .int .i64 t431, .int .i64 0, .int .i64 0, .int .i64 t434]) ?_ 2 _ rfl; (with_reducible repeat (first | apply kN | apply kD | apply kA)); exact BK437.out⟩, ⟨by repeat (first | (with_reducible first | exact HI0.out | apply IsS126.alloc | apply IsS126.drewN | apply IsS126.drew | apply IsS126.set_1 | apply IsS126.set_2 | refine IsS126.far ?_ NB0_430.out _ | refine IsS126.far ?_ NB0_437.out _) | exact HI0.out)⟩, ⟨by repeat (first | (with_reducible first | exact HK.out | apply KeepBut.set_ | apply keep_drewN | apply keep_drew | apply keep_alloc | refine keep_far ?_ GW430.out _ | refine keep_far ?_ GW437.out _) | exact HK.out)⟩, ⟨by repeat (first | (with_reducible first | exact HB.out | apply bA | apply bN | apply b1 | refine bS ?_ (IsS126.ge HI0.out) | refine bS ?_ GE430.out | refine bS ?_ GE437.out) | exact HB.out)⟩⟩
  ·replace c18 := Bool.eq_false_iff.mpr c18
   subst c18
   replace H := iF H
   have H' := aM H
   clear H
   have hnb19 := NB437_430.out
   have hnc19 := NB430_437.out
   have hnb20 := NB437_0.out
   have hnc20 := NB0_437.out
   obtain ⟨hcz21_0, hcz21_1, hcz21_2, hcz21_3, hcz21_4⟩ := kk5 BK437
   obtain ⟨hfz21_0, hfz21_1, hfz21_2, hfz21_3, hfz21_4⟩ := kg5 BK437
   go_wp2
   go_meet
   case rel => exact ⟨_, (wrap64 (t434 + 1)), H', zO, ⟨by (with_reducible repeat (first | apply kN | apply kD | apply kA)); refine blk_far ?_ NB430_437.out _; (with_reducible repeat (first | apply kN | apply kD | apply kA)); refine blk_far ?_ NB430_437.out _; (with_reducible repeat (first | apply kN | apply kD | apply kA)); exact BK430.out⟩, ⟨by (with_reducible repeat (first | apply kN | apply kD | apply kA)); refine blk_put (cs := #[.slice none 0 0, .int .i64 t431, .int .i64 (wrap64 (t431 + t438)), .int .i64 0, .int .i64 t434]) ?_ 3 _ rfl; (with_reducible repeat (first | apply kN | apply kD | apply kA)); refine blk_put (cs := #[.slice none 0 0, .int .i64 t431, .int .i64 0, .int .i64 0, .int .i64 t434]) ?_ 2 _ rfl; (with_reducible repeat (first | apply kN | apply kD | apply kA)); exact BK437.out⟩, ⟨by repeat (first | (with_reducible first | exact HI0.out | apply IsS126.alloc | apply IsS126.drewN | apply IsS126.drew | apply IsS126.set_1 | apply IsS126.set_2 | refine IsS126.far ?_ NB0_430.out _ | refine IsS126.far ?_ NB0_437.out _) | exact HI0.out)⟩, ⟨by repeat (first | (with_reducible first | exact HK.out | apply KeepBut.set_ | apply keep_drewN | apply keep_drew | apply keep_alloc | refine keep_far ?_ GW430.out _ | refine keep_far ?_ GW437.out _) | exact HK.out)⟩, ⟨by repeat (first | (with_reducible first | exact HB.out | apply bA | apply bN | apply b1 | refine bS ?_ (IsS126.ge HI0.out) | refine bS ?_ GE430.out | refine bS ?_ GE437.out) | exact HB.out)⟩⟩
 case rest =>
  clear HC6
  (try clear hcz13_0); (try clear hcz13_1); (try clear hcz13_2); (try clear hcz13_3); (try clear hcz13_4); (try clear hfz13_0); (try clear hfz13_1); (try clear hfz13_2); (try clear hfz13_3); (try clear hfz13_4)
  obtain ⟨kq, x438003_5, HA, HJ5, BK430, BK437, HI0, HK, HB⟩ := hcut
  cases kq with
  | zero => exact absurd HA.out (by simp [spec_l13DrawScan.j0])
  | succ kj5 =>
   have H := HA.out
   clear HA
   simp only [spec_l13DrawScan.j0] at H
   replace H := oB H
   obtain ⟨⟨t441, t442, t443⟩, A220, H⟩ := H
   replace H : (if t441 = 0 then ((some (([64, wrap64 (t431 - 1), 63] : List Int) : List Int)).bind fun y444 => ((spec_l01Cur_pick.f s0_0 t442 t443 3).bind fun bt447 => (if 0 ≤ bt447.1 then (if bt447.1 < (y444.length : Int) then (some (([] : List Int), t431, rd y444 bt447.1, x438003_5, t434, bt447.2.1, bt447.2.2)) else (none)) else (none)))) else (if t441 = 1 then ((some (([13, 14, (-1)] : List Int) : List Int)).bind fun y451 => ((spec_l01Cur_pick.f s0_0 t442 t443 3).bind fun bt454 => (if 0 ≤ bt454.1 then (if bt454.1 < (y451.length : Int) then (some (([] : List Int), t431, (wrap64 (t431 + t438)), x438003_5, rd y451 bt454.1, bt454.2.1, bt454.2.2)) else (none)) else (none)))) else (if t441 = 2 then ((spec_l01Cur_pick.f s0_0 t442 t443 4).bind fun bt458 => (some (([] : List Int), t431, (wrap64 (t431 + t438)), bt458.1, t434, bt458.2.1, bt458.2.2))) else (some (([] : List Int), t431, (wrap64 (t431 + t438)), x438003_5, t434, t442, t443))))) = some (r1, r2, r3, r4, r5, r6, r7) := H
   have A22 := aM A220
   clear A220
   by_cases c23 : t441 = 0
   ·rw [if_pos c23] at H
    have c23b0 : (t441 == 0) = true := beq_iff_eq.mpr c23
    have c23b1 : (t441 != 0) = false := bne_eq_false_iff_eq.mpr c23
    clear c23
    obtain ⟨y444, hy444⟩ : ∃ y_ : List Int, y_ = (([64, wrap64 (t431 - 1), 63] : List Int)) := ⟨_, rfl⟩
    replace H : ((spec_l01Cur_pick.f s0_0 t442 t443 3).bind fun bt447 => (if 0 ≤ bt447.1 then (if bt447.1 < (y444.length : Int) then (some (([] : List Int), t431, rd y444 bt447.1, x438003_5, t434, bt447.2.1, bt447.2.2)) else (none)) else (none))) = some (r1, r2, r3, r4, r5, r6, r7) := by first | (rw [hy444]; with_reducible exact H) | (have H2_ := (Option.bind_some _ _).symm.trans H; rw [hy444]; with_reducible exact H2_) | (have H2_ := (Option.bind_some _ _).symm.trans H; with_reducible exact H2_) | with_reducible exact H | (rw [hy444]; exact H) | exact H
    have Ny444 := aM hy444
    clear hy444
    replace H := oB H
    obtain ⟨⟨t447, t448, t449⟩, A240, H⟩ := H
    replace H : (if 0 ≤ t447 then (if t447 < (y444.length : Int) then (some (([] : List Int), t431, rd y444 t447, x438003_5, t434, t448, t449)) else (none)) else (none)) = some (r1, r2, r3, r4, r5, r6, r7) := H
    have A24 := aM A240
    clear A240
    by_cases c25 : 0 ≤ t447
    ·rw [if_pos c25] at H
     have c25b0 : decide (0 ≤ t447) = true := decide_eq_true c25
     clear c25
     by_cases c26 : t447 < (y444.length : Int)
     ·rw [if_pos c26] at H
      have c26b0 : decide (t447 < (y444.length : Int)) = true := decide_eq_true c26
      clear c26
      simp only [Option.some.injEq, Prod.mk.injEq] at H
      obtain ⟨rfl, rfl, rfl, rfl, rfl, rfl, rfl⟩ := H
      try go_wp2_with (first | ((with_reducible refine gate_callee (f := 122) rfl ?_); refine zGl (some 27) Try.func122 #[.pointer (some ⟨g, 0, none⟩), .int .i64 20] ?_; (with_reducible refine (spec_l01Cur_pick.calls g s0_0 t439 t440 20 t441 t442 t443 w0 _ ?side1 ?side2 A22.out).mono ?_); (case side1 => repeat (first | (with_reducible first | exact HI0.out | apply IsS126.alloc | apply IsS126.drewN | apply IsS126.drew | apply IsS126.set_1 | apply IsS126.set_2 | refine IsS126.far ?_ NB0_430.out _ | refine IsS126.far ?_ NB0_437.out _) | exact HI0.out)); (case side2 => repeat (first | (with_reducible first | exact HB.out | apply bA | apply bN | apply b1 | refine bS ?_ (IsS126.ge HI0.out) | refine bS ?_ GE430.out | refine bS ?_ GE437.out) | exact HB.out)); rintro e w27 ⟨rfl, hi, hb, hk⟩; refine ⟨_, rfl, ?_⟩; replace BK430 := aM (KeepBut.blk hk (g' := gb430) (o := .cells #[.slice none 0 0, .int .i64 0, .int .i64 0, .int .i64 0, .int .i64 0] 28 (0, 0)) (zK BK430) NB430_0.out (by simp)); replace BK437 := aM (KeepBut.blk hk (g' := gb437) (o := .cells #[.slice none 0 0, .int .i64 t431, .int .i64 (wrap64 (t431 + t438)), .int .i64 x438003_5, .int .i64 t434] 28 (0, 0)) (zK BK437) NB437_0.out (by simp)); replace HK := aM (KeepBut.trans (by repeat (first | (with_reducible first | exact HK.out | apply KeepBut.set_ | apply keep_drewN | apply keep_drew | apply keep_alloc | refine keep_far ?_ GW430.out _ | refine keep_far ?_ GW437.out _) | exact HK.out)) hk (.inl rfl)); replace HB := aM (hb); replace HI0 := aM (hi); (try clear hb); (try clear hk); (try clear hi)))
      have pi450 : (0 ≤ (t447 : Int)) = True := eq_true (zA)
      have qi450 : (t447 < (y444.length : Int)) = True := eq_true (zA)
      have n0_ := aM (kD BK430.out)
      have n1_ := aM (kD BK437.out)
      have n2_ := aM (IsS126.drew HI0.out)
      have n3_ := aM (keep_drew HK.out)
      have n4_ := aM (b1 HB.out)
      clear BK430
      clear BK437
      clear HI0
      clear HK
      clear HB
      have BK430 := n0_
      have BK437 := n1_
      have HI0 := n2_
      have HK := n3_
      have HB := n4_
      clear n0_ n1_ n2_ n3_ n4_
      refine start_ (n := 10) (S := fun w' => w'.cell? ⟨gb437, 0, none⟩ = some (.slice none 0 0) ∧ w'.cell? ⟨gb437, 1, none⟩ = some (.int .i64 t431) ∧ w'.cell? ⟨gb437, 2, none⟩ = some (.int .i64 (wrap64 (t431 + t438))) ∧ w'.cell? ⟨gb437, 3, none⟩ = some (.int .i64 x438003_5) ∧ w'.cell? ⟨gb437, 4, none⟩ = some (.int .i64 t434)) (ds := [9]) #[false, false, false, false, false, false, false, false, false, false] (by kernel_rfl) rfl rfl ⟨(kC BK437.out 0).trans rfl, (kC BK437.out 1).trans rfl, (kC BK437.out 2).trans rfl, (kC BK437.out 3).trans rfl, (kC BK437.out 4).trans rfl⟩ (fun hHeld => ?_); refine with_tabW spec_l13DrawScan.tab7 spec_l13DrawScan.bits7 (fun HT_ HW_ => ?_)
      generalize w27.drew = w28 at BK430 BK437 HI0 HK HB hHeld ⊢
      refine zP 0 (some 30) HT_ ?_
      refine zP 4 (some 34) HT_ ?_
      refine zT 1 (some 31) HT_ HW_ hHeld (hy := Or.inl ⟨by rfl, by rintro w' ⟨s0, s1, s2, s3, s4⟩; go_simp; with_reducible rfl⟩) (h := ?_)
      refine zP 2 (some 32) HT_ ?_
      refine join_ (σ := Value × Addr) 4 #[true, true, true, true, true, true, false, false, false, false] (fun s_ => [(33, s_.1), (35, .int .i64 t447)]) (fun s_ w' => (w'.cell? ⟨gb437, 0, none⟩ = some (.slice none 0 0) ∧ w'.cell? ⟨gb437, 1, none⟩ = some (.int .i64 t431) ∧ w'.cell? ⟨gb437, 2, none⟩ = some (.int .i64 (wrap64 (t431 + t438))) ∧ w'.cell? ⟨gb437, 3, none⟩ = some (.int .i64 x438003_5) ∧ w'.cell? ⟨gb437, 4, none⟩ = some (.int .i64 t434)) ∧ (Kd.R (Kd.int .i64) 3 w' w.heap.size (fun _ => True) s_.1 y444) ∧ (∃ c_, (s_.1 : Value) = .slice (some s_.2) y444.length c_) ∧ (w'.heap[gb430]? = some (.cells #[.slice none 0 0, .int .i64 0, .int .i64 0, .int .i64 0, .int .i64 0] 28 (0, 0))) ∧ (w'.heap[gb437]? = some (.cells #[.slice none 0 0, .int .i64 t431, .int .i64 (wrap64 (t431 + t438)), .int .i64 x438003_5, .int .i64 t434] 28 (0, 0))) ∧ (IsS126 w0 w' g s0_0 t448 t449) ∧ (KeepBut w w' g none) ∧ (Below w0.heap.size w0 w')) ?_ ?_
      rotate_left
      ·intro hCont
       refine two_ (i := 3) (j := 5) (Ni := some 33) (Nj := some 35) #[true, true, true, true, true, false, false, false, false, false] #[true, true, true, false, true, true, false, false, false, false] rfl rfl rfl rfl (two_of HT_.out (by kernel_rfl)) (by decide) (by decide) (fun K hK => ?_) (fun K hK => ?_)
       ·skip
        refine Kd.R_lit_step (Kd.int .i64) _ 3 ?hg (N := 33) ?hd (xs := ([64, wrap64 (t431 - 1), 63] : List Int)) (inner := [.int .i64 64, .int .i64 (wrap64 (t431 - 1)), .int .i64 63]) (ok := fun _ => True) (okp := fun _ => True) ?hr ?hp (fun _ hk => hk) trivial (Below.refl _ _) (Nat.le_refl _) (by simp) ?_; (case hd => rfl); (case hg => rfl); (case hr => first | (go_simp; done) | (go_simp; rfl)); (case hp => exact (Reps.one (show Kd.M (Kd.int .i64) _ _ _ 64 [.int .i64 64] from rfl) (Reps.one (show Kd.M (Kd.int .i64) _ _ _ (wrap64 (t431 - 1)) [.int .i64 (wrap64 (t431 - 1))] from rfl) (Reps.one (show Kd.M (Kd.int .i64) _ _ _ 63 [.int .i64 63] from rfl) (Reps.none _ _)))))
        intro v445 w29 ho30 hb hg_ hnew_
        clear hg_ hnew_
        (first | rw [← Ny444.out] at ho30 | (simp only [Int.reduceToNat] at ho30; rw [← Ny444.out] at ho30))
        have n0_ := aM (Kd.R_lower ho30 (keep_size (w := w) (g := g) (row := none) (by repeat (first | (with_reducible first | exact HK.out | apply KeepBut.set_ | apply keep_drewN | apply keep_drew | apply keep_alloc | refine keep_far ?_ GW430.out _ | refine keep_far ?_ GW437.out _) | exact HK.out))))
        have n1_ := cB BK430 hb
        have n2_ := cB BK437 hb
        have n3_ := aM (IsS126.below (by repeat (first | (with_reducible first | exact HI0.out | apply IsS126.alloc | apply IsS126.drewN | apply IsS126.drew | apply IsS126.set_1 | apply IsS126.set_2 | refine IsS126.far ?_ NB0_430.out _ | refine IsS126.far ?_ NB0_437.out _) | exact HI0.out)) hb)
        have n4_ := aM (KeepBut.trans (by repeat (first | (with_reducible first | exact HK.out | apply KeepBut.set_ | apply keep_drewN | apply keep_drew | apply keep_alloc | refine keep_far ?_ GW430.out _ | refine keep_far ?_ GW437.out _) | exact HK.out)) (KeepBut.of_below hb g none) (.inl rfl))
        have n5_ := aM (below_step (by repeat (first | (with_reducible first | exact HB.out | apply bA | apply bN | apply b1 | refine bS ?_ (IsS126.ge HI0.out) | refine bS ?_ GE430.out | refine bS ?_ GE437.out) | exact HB.out)) hb)
        clear BK430
        clear BK437
        clear HI0
        clear HK
        clear HB
        have HO446 := n0_
        have BK430 := n1_
        have BK437 := n2_
        have HI0 := n3_
        have HK := n4_
        have HB := n5_
        clear n0_ n1_ n2_ n3_ n4_ n5_
        clear hb ho30
        obtain ⟨Ao31, co31, eo31⟩ := Kd.R_slice HO446.out
        subst eo31
        obtain ⟨ado31, fo31, _⟩ := Kd.at_int (Kd.R_reads' HO446.out).2.2 0 (by decide) (by rw [Ny444.out]; simp)
        cases fo31
        refine hK.out _ _ ⟨(kC BK437.out 0).trans rfl, (kC BK437.out 1).trans rfl, (kC BK437.out 2).trans rfl, (kC BK437.out 3).trans rfl, (kC BK437.out 4).trans rfl⟩ (fun hHeld => ?_)
        clear hK K
        refine zNo (some 33) ?_
        refine zOn 5 (some 35) HT_ (fun K hK => ?_)
        refine zGo Try.func122 #[.pointer (some ⟨g, 0, none⟩), .int .i64 3] ?_
        with_reducible refine (spec_l01Cur_pick.calls g s0_0 t442 t443 3 t447 t448 t449 w0 _ ?side1 ?side2 A24.out).mono ?_
        (case side1 => repeat (first | (with_reducible first | exact HI0.out | apply IsS126.alloc | apply IsS126.drewN | apply IsS126.drew | apply IsS126.set_1 | apply IsS126.set_2 | refine IsS126.far ?_ NB0_430.out _ | refine IsS126.far ?_ NB0_437.out _) | exact HI0.out))
        (case side2 => repeat (first | (with_reducible first | exact HB.out | apply bA | apply bN | apply b1 | refine bS ?_ (IsS126.ge HI0.out) | refine bS ?_ GE430.out | refine bS ?_ GE437.out) | exact HB.out))
        rintro e w32 ⟨rfl, hi, hb, hk⟩
        refine ⟨_, rfl, ?_⟩
        have n0_ := aM (KeepBut.blk hk (g' := gb430) (o := .cells #[.slice none 0 0, .int .i64 0, .int .i64 0, .int .i64 0, .int .i64 0] 28 (0, 0)) (zK BK430) NB430_0.out (by simp))
        have n1_ := aM (KeepBut.blk hk (g' := gb437) (o := .cells #[.slice none 0 0, .int .i64 t431, .int .i64 (wrap64 (t431 + t438)), .int .i64 x438003_5, .int .i64 t434] 28 (0, 0)) (zK BK437) NB437_0.out (by simp))
        have n2_ := aM (Kd.R_mono (Kd.R_keep (IsS126.apart (show IsS126 w0 _ g s0_0 t442 t443 from by repeat (first | (with_reducible first | exact HI0.out | apply IsS126.alloc | apply IsS126.drewN | apply IsS126.drew | apply IsS126.set_1 | apply IsS126.set_2 | refine IsS126.far ?_ NB0_430.out _ | refine IsS126.far ?_ NB0_437.out _) | exact HI0.out)) (by (with_reducible repeat (first | apply Kd.R_alloc | apply Kd.R_drewN | apply Kd.R_drew)); exact HO446.out) (by decide)) hk (fun _ h => h.2)) (fun _ h => h.1))
        have n3_ := aM (KeepBut.trans (by repeat (first | (with_reducible first | exact HK.out | apply KeepBut.set_ | apply keep_drewN | apply keep_drew | apply keep_alloc | refine keep_far ?_ GW430.out _ | refine keep_far ?_ GW437.out _) | exact HK.out)) hk (.inl rfl))
        have n4_ := aM (hb)
        have n5_ := aM (hi)
        clear BK430
        clear BK437
        clear HO446
        clear HK
        clear HB
        clear HI0
        have BK430 := n0_
        have BK437 := n1_
        have HO446 := n2_
        have HK := n3_
        have HB := n4_
        have HI0 := n5_
        clear n0_ n1_ n2_ n3_ n4_ n5_
        (try clear hb)
        (try clear hb2)
        (try clear hk)
        (try clear hi)
        refine hK.out _ _ ⟨(kC BK437.out 0).trans rfl, (kC BK437.out 1).trans rfl, (kC BK437.out 2).trans rfl, (kC BK437.out 3).trans rfl, (kC BK437.out 4).trans rfl⟩ (fun hHeld => ?_)
        clear hK K
        refine zNo (some 35) ?_
        exact norm_ (by simp only [putAll, Act.put, List.setIfInBounds_toArray, List.set_cons_zero, List.set_cons_succ]) (hCont (.slice (some ado31) y444.length co31, ado31) _ ⟨hHeld, (by (with_reducible repeat (first | apply Kd.R_alloc | apply Kd.R_drewN | apply Kd.R_drew)); exact HO446.out), ⟨_, rfl⟩, (zK BK430), (zK BK437), (by repeat (first | (with_reducible first | exact HI0.out | apply IsS126.alloc | apply IsS126.drewN | apply IsS126.drew | apply IsS126.set_1 | apply IsS126.set_2 | refine IsS126.far ?_ NB0_430.out _ | refine IsS126.far ?_ NB0_437.out _) | exact HI0.out)), (by repeat (first | (with_reducible first | exact HK.out | apply KeepBut.set_ | apply keep_drewN | apply keep_drew | apply keep_alloc | refine keep_far ?_ GW430.out _ | refine keep_far ?_ GW437.out _) | exact HK.out)), (by repeat (first | (with_reducible first | exact HB.out | apply bA | apply bN | apply b1 | refine bS ?_ (IsS126.ge HI0.out) | refine bS ?_ GE430.out | refine bS ?_ GE437.out) | exact HB.out))⟩)
       ·skip
        refine zGo Try.func122 #[.pointer (some ⟨g, 0, none⟩), .int .i64 3] ?_
        with_reducible refine (spec_l01Cur_pick.calls g s0_0 t442 t443 3 t447 t448 t449 w0 _ ?side1 ?side2 A24.out).mono ?_
        (case side1 => repeat (first | (with_reducible first | exact HI0.out | apply IsS126.alloc | apply IsS126.drewN | apply IsS126.drew | apply IsS126.set_1 | apply IsS126.set_2 | refine IsS126.far ?_ NB0_430.out _ | refine IsS126.far ?_ NB0_437.out _) | exact HI0.out))
        (case side2 => repeat (first | (with_reducible first | exact HB.out | apply bA | apply bN | apply b1 | refine bS ?_ (IsS126.ge HI0.out) | refine bS ?_ GE430.out | refine bS ?_ GE437.out) | exact HB.out))
        rintro e w29 ⟨rfl, hi, hb, hk⟩
        refine ⟨_, rfl, ?_⟩
        have n0_ := aM (KeepBut.blk hk (g' := gb430) (o := .cells #[.slice none 0 0, .int .i64 0, .int .i64 0, .int .i64 0, .int .i64 0] 28 (0, 0)) (zK BK430) NB430_0.out (by simp))
        have n1_ := aM (KeepBut.blk hk (g' := gb437) (o := .cells #[.slice none 0 0, .int .i64 t431, .int .i64 (wrap64 (t431 + t438)), .int .i64 x438003_5, .int .i64 t434] 28 (0, 0)) (zK BK437) NB437_0.out (by simp))
        have n2_ := aM (KeepBut.trans (by repeat (first | (with_reducible first | exact HK.out | apply KeepBut.set_ | apply keep_drewN | apply keep_drew | apply keep_alloc | refine keep_far ?_ GW430.out _ | refine keep_far ?_ GW437.out _) | exact HK.out)) hk (.inl rfl))
        have n3_ := aM (hb)
        have n4_ := aM (hi)
        clear BK430
        clear BK437
        clear HK
        clear HB
        clear HI0
        have BK430 := n0_
        have BK437 := n1_
        have HK := n2_
        have HB := n3_
        have HI0 := n4_
        clear n0_ n1_ n2_ n3_ n4_
        (try clear hb)
        (try clear hb2)
        (try clear hk)
        (try clear hi)
        refine hK.out _ _ ⟨(kC BK437.out 0).trans rfl, (kC BK437.out 1).trans rfl, (kC BK437.out 2).trans rfl, (kC BK437.out 3).trans rfl, (kC BK437.out 4).trans rfl⟩ (fun hHeld => ?_)
        clear hK K
        refine zNo (some 35) ?_
        refine zOn 3 (some 33) HT_ (fun K hK => ?_)
        refine Kd.R_lit_step (Kd.int .i64) _ 3 ?hg (N := 33) ?hd (xs := ([64, wrap64 (t431 - 1), 63] : List Int)) (inner := [.int .i64 64, .int .i64 (wrap64 (t431 - 1)), .int .i64 63]) (ok := fun _ => True) (okp := fun _ => True) ?hr ?hp (fun _ hk => hk) trivial (Below.refl _ _) (Nat.le_refl _) (by simp) ?_; (case hd => rfl); (case hg => rfl); (case hr => first | (go_simp; done) | (go_simp; rfl)); (case hp => exact (Reps.one (show Kd.M (Kd.int .i64) _ _ _ 64 [.int .i64 64] from rfl) (Reps.one (show Kd.M (Kd.int .i64) _ _ _ (wrap64 (t431 - 1)) [.int .i64 (wrap64 (t431 - 1))] from rfl) (Reps.one (show Kd.M (Kd.int .i64) _ _ _ 63 [.int .i64 63] from rfl) (Reps.none _ _)))))
        intro v445 w30 ho31 hb hg_ hnew_
        clear hg_ hnew_
        (first | rw [← Ny444.out] at ho31 | (simp only [Int.reduceToNat] at ho31; rw [← Ny444.out] at ho31))
        have n0_ := aM (Kd.R_lower ho31 (keep_size (w := w) (g := g) (row := none) (by repeat (first | (with_reducible first | exact HK.out | apply KeepBut.set_ | apply keep_drewN | apply keep_drew | apply keep_alloc | refine keep_far ?_ GW430.out _ | refine keep_far ?_ GW437.out _) | exact HK.out))))
        have n1_ := cB BK430 hb
        have n2_ := cB BK437 hb
        have n3_ := aM (IsS126.below (by repeat (first | (with_reducible first | exact HI0.out | apply IsS126.alloc | apply IsS126.drewN | apply IsS126.drew | apply IsS126.set_1 | apply IsS126.set_2 | refine IsS126.far ?_ NB0_430.out _ | refine IsS126.far ?_ NB0_437.out _) | exact HI0.out)) hb)
        have n4_ := aM (KeepBut.trans (by repeat (first | (with_reducible first | exact HK.out | apply KeepBut.set_ | apply keep_drewN | apply keep_drew | apply keep_alloc | refine keep_far ?_ GW430.out _ | refine keep_far ?_ GW437.out _) | exact HK.out)) (KeepBut.of_below hb g none) (.inl rfl))
        have n5_ := aM (below_step (by repeat (first | (with_reducible first | exact HB.out | apply bA | apply bN | apply b1 | refine bS ?_ (IsS126.ge HI0.out) | refine bS ?_ GE430.out | refine bS ?_ GE437.out) | exact HB.out)) hb)
        clear BK430
        clear BK437
        clear HI0
        clear HK
        clear HB
        have HO446 := n0_
        have BK430 := n1_
        have BK437 := n2_
        have HI0 := n3_
        have HK := n4_
        have HB := n5_
        clear n0_ n1_ n2_ n3_ n4_ n5_
        clear hb ho31
        obtain ⟨Ao32, co32, eo32⟩ := Kd.R_slice HO446.out
        subst eo32
        obtain ⟨ado32, fo32, _⟩ := Kd.at_int (Kd.R_reads' HO446.out).2.2 0 (by decide) (by rw [Ny444.out]; simp)
        cases fo32
        refine hK.out _ _ ⟨(kC BK437.out 0).trans rfl, (kC BK437.out 1).trans rfl, (kC BK437.out 2).trans rfl, (kC BK437.out 3).trans rfl, (kC BK437.out 4).trans rfl⟩ (fun hHeld => ?_)
        clear hK K
        refine zNo (some 33) ?_
        exact norm_ (by simp only [putAll, Act.put, List.setIfInBounds_toArray, List.set_cons_zero, List.set_cons_succ]) (hCont (.slice (some ado32) y444.length co32, ado32) _ ⟨hHeld, (by (with_reducible repeat (first | apply Kd.R_alloc | apply Kd.R_drewN | apply Kd.R_drew)); exact HO446.out), ⟨_, rfl⟩, (zK BK430), (zK BK437), (by repeat (first | (with_reducible first | exact HI0.out | apply IsS126.alloc | apply IsS126.drewN | apply IsS126.drew | apply IsS126.set_1 | apply IsS126.set_2 | refine IsS126.far ?_ NB0_430.out _ | refine IsS126.far ?_ NB0_437.out _) | exact HI0.out)), (by repeat (first | (with_reducible first | exact HK.out | apply KeepBut.set_ | apply keep_drewN | apply keep_drew | apply keep_alloc | refine keep_far ?_ GW430.out _ | refine keep_far ?_ GW437.out _) | exact HK.out)), (by repeat (first | (with_reducible first | exact HB.out | apply bA | apply bN | apply b1 | refine bS ?_ (IsS126.ge HI0.out) | refine bS ?_ GE430.out | refine bS ?_ GE437.out) | exact HB.out))⟩)
      rintro ⟨v445, adz_v445⟩ w33 ⟨hS_, h0_, h1_, h2_, h3_, h4_, h5_, h6_⟩
      have n0_ : Aside0 (Kd.R (Kd.int .i64) 3 w33 w.heap.size (fun _ => True) v445 y444) := ⟨h0_⟩
      have n1_ : Aside0 (∃ c_, (v445 : Value) = .slice (some adz_v445) y444.length c_) := ⟨h1_⟩
      have n2_ : Aside0 (w33.heap[gb430]? = some (.cells #[.slice none 0 0, .int .i64 0, .int .i64 0, .int .i64 0, .int .i64 0] 28 (0, 0))) := ⟨h2_⟩
      have n3_ : Aside0 (w33.heap[gb437]? = some (.cells #[.slice none 0 0, .int .i64 t431, .int .i64 (wrap64 (t431 + t438)), .int .i64 x438003_5, .int .i64 t434] 28 (0, 0))) := ⟨h3_⟩
      have n4_ : Aside0 (IsS126 w0 w33 g s0_0 t448 t449) := ⟨h4_⟩
      have n5_ : Aside0 (KeepBut w w33 g none) := ⟨h5_⟩
      have n6_ : Aside0 (Below w0.heap.size w0 w33) := ⟨h6_⟩
      clear BK430
      clear BK437
      clear HI0
      clear HK
      clear HB
      clear h0_ h1_ h2_ h3_ h4_ h5_ h6_
      have HO446 := n0_
      have HA_HO446 := n1_
      have BK430 := n2_
      have BK437 := n3_
      have HI0 := n4_
      have HK := n5_
      have HB := n6_
      clear n0_ n1_ n2_ n3_ n4_ n5_ n6_
      have hHeld : w33.cell? ⟨gb437, 0, none⟩ = some (.slice none 0 0) ∧ w33.cell? ⟨gb437, 1, none⟩ = some (.int .i64 t431) ∧ w33.cell? ⟨gb437, 2, none⟩ = some (.int .i64 (wrap64 (t431 + t438))) ∧ w33.cell? ⟨gb437, 3, none⟩ = some (.int .i64 x438003_5) ∧ w33.cell? ⟨gb437, 4, none⟩ = some (.int .i64 t434) := hS_
      obtain ⟨co34, eo34⟩ := HA_HO446.out
      clear HA_HO446
      subst eo34
      refine norm_ (a' := ?_) ?_ ?_
      rotate_left
      ·simp only [putAll, Act.put, List.setIfInBounds_toArray, List.set_cons_zero, List.set_cons_succ]
       rfl
      refine zP 6 (some 36) HT_ ?_
      refine zOn 7 (some 37) HT_ (fun K hK => ?_)
      (have p450 : 0 ≤ (t447 : Int) := zA; have q450 : t447 < (y444.length : Int) := zA; obtain ⟨ad450, e450, hx450_0⟩ := Kd.at_int (Kd.R_reads' HO446.out).2.2 t447 p450 q450; obtain rfl : adz_v445 = ad450 := (by injection e450))
      refine value_ (w1 := ?_) (v := ?_) (by rfl) rfl ?_ ?_
      rotate_left 2
      ·go_simp
       constructor
       ·rfl
       ·rfl
      clear hx450_0
      refine hK.out _ _ ⟨(kC BK437.out 0).trans rfl, (kC BK437.out 1).trans rfl, (kC BK437.out 2).trans rfl, (kC BK437.out 3).trans rfl, (kC BK437.out 4).trans rfl⟩ (fun hHeld => ?_)
      clear hK K
      refine zNo (some 37) ?_
      refine zP 8 (some 38) HT_ ?_
      refine last_ (i := 9) (N := none) #[true, true, true, true, true, true, true, true, true, true] rfl rfl (one_of HT_.out (by kernel_rfl)) (by decide) (fun K hK => ?_)
      have hs35 : w33.cell? ⟨gb437, 2, none⟩ = some (.int .i64 (wrap64 (t431 + t438))) := (kC BK437.out 2).trans rfl
      have hfs35 := blk_frozen BK437.out 2
      have hns35_0 := NB430_437.out
      have hms35_0 := NB437_430.out
      refine skip_ (w1 := ?_) (by rfl) rfl ?_ ?_
      rotate_left
      ·go_simp
       rfl
      refine hK.out _ _ ?_
      clear hK K
      refine done_ (done_of HT_.out (by kernel_rfl)) ?_
      have hnb36 := NB437_430.out
      have hnc36 := NB430_437.out
      have hnb37 := NB437_0.out
      have hnc37 := NB0_437.out
      obtain ⟨hcz38_0, hcz38_1, hcz38_2, hcz38_3, hcz38_4⟩ := kk5 BK437
      obtain ⟨hfz38_0, hfz38_1, hfz38_2, hfz38_3, hfz38_4⟩ := kg5 BK437
      have hnb39 := NB430_0.out
      have hnc39 := NB0_430.out
      obtain ⟨hcz40_0, hcz40_1, hcz40_2, hcz40_3, hcz40_4⟩ := kk5 BK430
      obtain ⟨hfz40_0, hfz40_1, hfz40_2, hfz40_3, hfz40_4⟩ := kg5 BK430
      try go_wp2
      refine bodyPost_ret (results_cell_row rfl _ _ gb430 28 #[.slice none 0 0, .int .i64 t431, .int .i64 (rd y444 t447), .int .i64 x438003_5, .int .i64 t434] (0, 0) _ rfl (by (with_reducible repeat (first | apply kN | apply kD | apply kA)); refine blk_put (cs := #[.slice none 0 0, .int .i64 t431, .int .i64 (rd y444 t447), .int .i64 x438003_5, .int .i64 0]) ?_ 4 _ rfl; (with_reducible repeat (first | apply kN | apply kD | apply kA)); refine blk_put (cs := #[.slice none 0 0, .int .i64 t431, .int .i64 (rd y444 t447), .int .i64 0, .int .i64 0]) ?_ 3 _ rfl; (with_reducible repeat (first | apply kN | apply kD | apply kA)); refine blk_put (cs := #[.slice none 0 0, .int .i64 t431, .int .i64 0, .int .i64 0, .int .i64 0]) ?_ 2 _ rfl; (with_reducible repeat (first | apply kN | apply kD | apply kA)); refine blk_put (cs := #[.slice none 0 0, .int .i64 0, .int .i64 0, .int .i64 0, .int .i64 0]) ?_ 1 _ rfl; (with_reducible repeat (first | apply kN | apply kD | apply kA)); refine blk_put (cs := #[.slice none 0 0, .int .i64 0, .int .i64 0, .int .i64 0, .int .i64 0]) ?_ 0 _ rfl; (with_reducible repeat (first | apply kN | apply kD | apply kA)); refine blk_far ?_ NB430_437.out _; (with_reducible repeat (first | apply kN | apply kD | apply kA)); exact BK430.out) Try.underlying28 rfl (by kernel_rfl)) rfl ?_
      exact ⟨_, zR, by first | exact Kd.R_nil _ _ _ _ _ | exact Kd.N_nil _ _ _ _ _ | exact Kd.V_nil _ _ _ _ _ | exact Kd.Q_nil _ _ _ _ _ | exact Kd.S_nil _ _ _ _ _, by repeat (first | (with_reducible first | exact HI0.out | apply IsS126.alloc | apply IsS126.drewN | apply IsS126.drew | apply IsS126.set_1 | apply IsS126.set_2 | refine IsS126.far ?_ NB0_430.out _ | refine IsS126.far ?_ NB0_437.out _) | exact HI0.out), by repeat (first | (with_reducible first | exact HB.out | apply bA | apply bN | apply b1 | refine bS ?_ (IsS126.ge HI0.out) | refine bS ?_ GE430.out | refine bS ?_ GE437.out) | exact HB.out), by repeat (first | (with_reducible first | exact HK.out | apply KeepBut.set_ | apply keep_drewN | apply keep_drew | apply keep_alloc | refine keep_far ?_ GW430.out _ | refine keep_far ?_ GW437.out _) | exact HK.out)⟩
     ·rw [if_neg c26] at H
      exact absurd H (by simp)
    ·rw [if_neg c25] at H
     exact absurd H (by simp)
   ·rw [if_neg c23] at H
    have c23b0 : (t441 == 0) = false := beq_eq_false_iff_ne.mpr c23
    have c23b1 : (t441 != 0) = true := bne_iff_ne.mpr c23
    by_cases c41 : t441 = 1
    ·rw [if_pos c41] at H
     have c41b0 : (t441 == 1) = true := beq_iff_eq.mpr c41
     have c41b1 : (t441 != 1) = false := bne_eq_false_iff_eq.mpr c41
     clear c41
     obtain ⟨y451, hy451⟩ : ∃ y_ : List Int, y_ = (([13, 14, (-1)] : List Int)) := ⟨_, rfl⟩
     replace H : ((spec_l01Cur_pick.f s0_0 t442 t443 3).bind fun bt454 => (if 0 ≤ bt454.1 then (if bt454.1 < (y451.length : Int) then (some (([] : List Int), t431, (wrap64 (t431 + t438)), x438003_5, rd y451 bt454.1, bt454.2.1, bt454.2.2)) else (none)) else (none))) = some (r1, r2, r3, r4, r5, r6, r7) := by first | (rw [hy451]; with_reducible exact H) | (have H2_ := (Option.bind_some _ _).symm.trans H; rw [hy451]; with_reducible exact H2_) | (have H2_ := (Option.bind_some _ _).symm.trans H; with_reducible exact H2_) | with_reducible exact H | (rw [hy451]; exact H) | exact H
     have Ny451 := aM hy451
     clear hy451
     replace H := oB H
     obtain ⟨⟨t454, t455, t456⟩, A420, H⟩ := H
     replace H : (if 0 ≤ t454 then (if t454 < (y451.length : Int) then (some (([] : List Int), t431, (wrap64 (t431 + t438)), x438003_5, rd y451 t454, t455, t456)) else (none)) else (none)) = some (r1, r2, r3, r4, r5, r6, r7) := H
     have A42 := aM A420
     clear A420
     by_cases c43 : 0 ≤ t454
     ·rw [if_pos c43] at H
      have c43b0 : decide (0 ≤ t454) = true := decide_eq_true c43
      clear c43
      by_cases c44 : t454 < (y451.length : Int)
      ·rw [if_pos c44] at H
       have c44b0 : decide (t454 < (y451.length : Int)) = true := decide_eq_true c44
       clear c44
       simp only [Option.some.injEq, Prod.mk.injEq] at H
       obtain ⟨rfl, rfl, rfl, rfl, rfl, rfl, rfl⟩ := H
       go_wp2_with (first | ((with_reducible refine gate_callee (f := 122) rfl ?_); refine zGl (some 27) Try.func122 #[.pointer (some ⟨g, 0, none⟩), .int .i64 20] ?_; (with_reducible refine (spec_l01Cur_pick.calls g s0_0 t439 t440 20 t441 t442 t443 w0 _ ?side1 ?side2 A22.out).mono ?_); (case side1 => repeat (first | (with_reducible first | exact HI0.out | apply IsS126.alloc | apply IsS126.drewN | apply IsS126.drew | apply IsS126.set_1 | apply IsS126.set_2 | refine IsS126.far ?_ NB0_430.out _ | refine IsS126.far ?_ NB0_437.out _) | exact HI0.out)); (case side2 => repeat (first | (with_reducible first | exact HB.out | apply bA | apply bN | apply b1 | refine bS ?_ (IsS126.ge HI0.out) | refine bS ?_ GE430.out | refine bS ?_ GE437.out) | exact HB.out)); rintro e w45 ⟨rfl, hi, hb, hk⟩; refine ⟨_, rfl, ?_⟩; replace BK430 := aM (KeepBut.blk hk (g' := gb430) (o := .cells #[.slice none 0 0, .int .i64 0, .int .i64 0, .int .i64 0, .int .i64 0] 28 (0, 0)) (zK BK430) NB430_0.out (by simp)); replace BK437 := aM (KeepBut.blk hk (g' := gb437) (o := .cells #[.slice none 0 0, .int .i64 t431, .int .i64 (wrap64 (t431 + t438)), .int .i64 x438003_5, .int .i64 t434] 28 (0, 0)) (zK BK437) NB437_0.out (by simp)); replace HK := aM (KeepBut.trans (by repeat (first | (with_reducible first | exact HK.out | apply KeepBut.set_ | apply keep_drewN | apply keep_drew | apply keep_alloc | refine keep_far ?_ GW430.out _ | refine keep_far ?_ GW437.out _) | exact HK.out)) hk (.inl rfl)); replace HB := aM (hb); replace HI0 := aM (hi); (try clear hb); (try clear hk); (try clear hi)) | ((with_reducible refine gate_dst (N := 41) rfl ?_); refine Kd.R_lit (Kd.int .i64) _ 3 ?hg (N := 41) ?hd (xs := ([13, 14, (-1)] : List Int)) (inner := [.int .i64 13, .int .i64 14, .int .i64 (-1)]) (ok := fun _ => True) (okp := fun _ => True) ?hr ?hp (fun _ hk => hk) trivial (Below.refl _ _) (Nat.le_refl _) (by simp) ?_; (case hd => rfl); (case hg => rfl); (case hr => first | (go_simp; done) | (go_simp; rfl)); (case hp => exact (Reps.one (show Kd.M (Kd.int .i64) _ _ _ 13 [.int .i64 13] from rfl) (Reps.one (show Kd.M (Kd.int .i64) _ _ _ 14 [.int .i64 14] from rfl) (Reps.one (show Kd.M (Kd.int .i64) _ _ _ (-1) [.int .i64 (-1)] from rfl) (Reps.none _ _))))); intro v452 w46 ho47 hb hg_ hnew_; clear hg_ hnew_; (first | rw [← Ny451.out] at ho47 | (simp only [Int.reduceToNat] at ho47; rw [← Ny451.out] at ho47)); have HO453 := aM (Kd.R_lower ho47 (keep_size (w := w) (g := g) (row := none) (by repeat (first | (with_reducible first | exact HK.out | apply KeepBut.set_ | apply keep_drewN | apply keep_drew | apply keep_alloc | refine keep_far ?_ GW430.out _ | refine keep_far ?_ GW437.out _) | exact HK.out)))); replace BK430 := cB BK430 hb; replace BK437 := cB BK437 hb; replace HK := aM (KeepBut.trans (by repeat (first | (with_reducible first | exact HK.out | apply KeepBut.set_ | apply keep_drewN | apply keep_drew | apply keep_alloc | refine keep_far ?_ GW430.out _ | refine keep_far ?_ GW437.out _) | exact HK.out)) (KeepBut.of_below hb g none) (.inl rfl)); replace HB := aM (below_step (by repeat (first | (with_reducible first | exact HB.out | apply bA | apply bN | apply b1 | refine bS ?_ (IsS126.ge HI0.out) | refine bS ?_ GE430.out | refine bS ?_ GE437.out) | exact HB.out)) hb); replace HI0 := aM (IsS126.below (by repeat (first | (with_reducible first | exact HI0.out | apply IsS126.alloc | apply IsS126.drewN | apply IsS126.drew | apply IsS126.set_1 | apply IsS126.set_2 | refine IsS126.far ?_ NB0_430.out _ | refine IsS126.far ?_ NB0_437.out _) | exact HI0.out)) hb); clear hb ho47) | ((with_reducible refine gate_callee (f := 122) rfl ?_); refine zGl (some 43) Try.func122 #[.pointer (some ⟨g, 0, none⟩), .int .i64 3] ?_; (with_reducible refine (spec_l01Cur_pick.calls g s0_0 t442 t443 3 t454 t455 t456 w0 _ ?side1 ?side2 A42.out).mono ?_); (case side1 => repeat (first | (with_reducible first | exact HI0.out | apply IsS126.alloc | apply IsS126.drewN | apply IsS126.drew | apply IsS126.set_1 | apply IsS126.set_2 | refine IsS126.far ?_ NB0_430.out _ | refine IsS126.far ?_ NB0_437.out _) | exact HI0.out)); (case side2 => repeat (first | (with_reducible first | exact HB.out | apply bA | apply bN | apply b1 | refine bS ?_ (IsS126.ge HI0.out) | refine bS ?_ GE430.out | refine bS ?_ GE437.out) | exact HB.out)); rintro e w48 ⟨rfl, hi, hb, hk⟩; refine ⟨_, rfl, ?_⟩; replace BK430 := aM (KeepBut.blk hk (g' := gb430) (o := .cells #[.slice none 0 0, .int .i64 0, .int .i64 0, .int .i64 0, .int .i64 0] 28 (0, 0)) (zK BK430) NB430_0.out (by simp)); replace BK437 := aM (KeepBut.blk hk (g' := gb437) (o := .cells #[.slice none 0 0, .int .i64 t431, .int .i64 (wrap64 (t431 + t438)), .int .i64 x438003_5, .int .i64 t434] 28 (0, 0)) (zK BK437) NB437_0.out (by simp)); replace HO453 := aM (Kd.R_mono (Kd.R_keep (IsS126.apart (show IsS126 w0 _ g s0_0 t442 t443 from by repeat (first | (with_reducible first | exact HI0.out | apply IsS126.alloc | apply IsS126.drewN | apply IsS126.drew | apply IsS126.set_1 | apply IsS126.set_2 | refine IsS126.far ?_ NB0_430.out _ | refine IsS126.far ?_ NB0_437.out _) | exact HI0.out)) (by (with_reducible repeat (first | apply Kd.R_alloc | apply Kd.R_drewN | apply Kd.R_drew)); exact HO453.out) (by decide)) hk (fun _ h => h.2)) (fun _ h => h.1)); replace HK := aM (KeepBut.trans (by repeat (first | (with_reducible first | exact HK.out | apply KeepBut.set_ | apply keep_drewN | apply keep_drew | apply keep_alloc | refine keep_far ?_ GW430.out _ | refine keep_far ?_ GW437.out _) | exact HK.out)) hk (.inl rfl)); replace HB := aM (hb); replace HI0 := aM (hi); (try clear hb); (try clear hk); (try clear hi); obtain ⟨Ao49, co49, eo49⟩ := Kd.R_slice HO453.out; subst eo49; have p457 : 0 ≤ (t454 : Int) := zA; have q457 : t454 < (y451.length : Int) := zA; obtain ⟨ad457, e457, hx457_0⟩ := Kd.at_int (Kd.R_reads' HO453.out).2.2 t454 p457 q457; cases e457; replace p457 := eq_true p457; replace q457 := eq_true q457; have hnb50 := NB437_430.out; have hnc50 := NB430_437.out; have hnb51 := NB437_0.out; have hnc51 := NB0_437.out; obtain ⟨hcz52_0, hcz52_1, hcz52_2, hcz52_3, hcz52_4⟩ := kk5 BK437; obtain ⟨hfz52_0, hfz52_1, hfz52_2, hfz52_3, hfz52_4⟩ := kg5 BK437; have hnb53 := NB430_0.out; have hnc53 := NB0_430.out; obtain ⟨hcz54_0, hcz54_1, hcz54_2, hcz54_3, hcz54_4⟩ := kk5 BK430; obtain ⟨hfz54_0, hfz54_1, hfz54_2, hfz54_3, hfz54_4⟩ := kg5 BK430))
       refine bodyPost_ret (results_cell_row rfl _ _ gb430 28 #[.slice none 0 0, .int .i64 t431, .int .i64 (wrap64 (t431 + t438)), .int .i64 x438003_5, .int .i64 (rd y451 t454)] (0, 0) _ rfl (by (with_reducible repeat (first | apply kN | apply kD | apply kA)); refine blk_put (cs := #[.slice none 0 0, .int .i64 t431, .int .i64 (wrap64 (t431 + t438)), .int .i64 x438003_5, .int .i64 0]) ?_ 4 _ rfl; (with_reducible repeat (first | apply kN | apply kD | apply kA)); refine blk_put (cs := #[.slice none 0 0, .int .i64 t431, .int .i64 (wrap64 (t431 + t438)), .int .i64 0, .int .i64 0]) ?_ 3 _ rfl; (with_reducible repeat (first | apply kN | apply kD | apply kA)); refine blk_put (cs := #[.slice none 0 0, .int .i64 t431, .int .i64 0, .int .i64 0, .int .i64 0]) ?_ 2 _ rfl; (with_reducible repeat (first | apply kN | apply kD | apply kA)); refine blk_put (cs := #[.slice none 0 0, .int .i64 0, .int .i64 0, .int .i64 0, .int .i64 0]) ?_ 1 _ rfl; (with_reducible repeat (first | apply kN | apply kD | apply kA)); refine blk_put (cs := #[.slice none 0 0, .int .i64 0, .int .i64 0, .int .i64 0, .int .i64 0]) ?_ 0 _ rfl; (with_reducible repeat (first | apply kN | apply kD | apply kA)); refine blk_far ?_ NB430_437.out _; (with_reducible repeat (first | apply kN | apply kD | apply kA)); exact BK430.out) Try.underlying28 rfl (by kernel_rfl)) rfl ?_
       exact ⟨_, zR, by first | exact Kd.R_nil _ _ _ _ _ | exact Kd.N_nil _ _ _ _ _ | exact Kd.V_nil _ _ _ _ _ | exact Kd.Q_nil _ _ _ _ _ | exact Kd.S_nil _ _ _ _ _, by repeat (first | (with_reducible first | exact HI0.out | apply IsS126.alloc | apply IsS126.drewN | apply IsS126.drew | apply IsS126.set_1 | apply IsS126.set_2 | refine IsS126.far ?_ NB0_430.out _ | refine IsS126.far ?_ NB0_437.out _) | exact HI0.out), by repeat (first | (with_reducible first | exact HB.out | apply bA | apply bN | apply b1 | refine bS ?_ (IsS126.ge HI0.out) | refine bS ?_ GE430.out | refine bS ?_ GE437.out) | exact HB.out), by repeat (first | (with_reducible first | exact HK.out | apply KeepBut.set_ | apply keep_drewN | apply keep_drew | apply keep_alloc | refine keep_far ?_ GW430.out _ | refine keep_far ?_ GW437.out _) | exact HK.out)⟩
      ·rw [if_neg c44] at H
       exact absurd H (by simp)
     ·rw [if_neg c43] at H
      exact absurd H (by simp)
    ·rw [if_neg c41] at H
     have c41b0 : (t441 == 1) = false := beq_eq_false_iff_ne.mpr c41
     have c41b1 : (t441 != 1) = true := bne_iff_ne.mpr c41
     by_cases c55 : t441 = 2
     ·rw [if_pos c55] at H
      have c55b0 : (t441 == 2) = true := beq_iff_eq.mpr c55
      have c55b1 : (t441 != 2) = false := bne_eq_false_iff_eq.mpr c55
      clear c55
      replace H := oB H
      obtain ⟨⟨t458, t459, t460⟩, A560, H⟩ := H
      replace H : (some (([] : List Int), t431, (wrap64 (t431 + t438)), t458, t434, t459, t460)) = some (r1, r2, r3, r4, r5, r6, r7) := H
      have A56 := aM A560
      clear A560
      simp only [Option.some.injEq, Prod.mk.injEq] at H
      obtain ⟨rfl, rfl, rfl, rfl, rfl, rfl, rfl⟩ := H
      go_wp2_with (first | ((with_reducible refine gate_callee (f := 122) rfl ?_); refine zGl (some 27) Try.func122 #[.pointer (some ⟨g, 0, none⟩), .int .i64 20] ?_; (with_reducible refine (spec_l01Cur_pick.calls g s0_0 t439 t440 20 t441 t442 t443 w0 _ ?side1 ?side2 A22.out).mono ?_); (case side1 => repeat (first | (with_reducible first | exact HI0.out | apply IsS126.alloc | apply IsS126.drewN | apply IsS126.drew | apply IsS126.set_1 | apply IsS126.set_2 | refine IsS126.far ?_ NB0_430.out _ | refine IsS126.far ?_ NB0_437.out _) | exact HI0.out)); (case side2 => repeat (first | (with_reducible first | exact HB.out | apply bA | apply bN | apply b1 | refine bS ?_ (IsS126.ge HI0.out) | refine bS ?_ GE430.out | refine bS ?_ GE437.out) | exact HB.out)); rintro e w57 ⟨rfl, hi, hb, hk⟩; refine ⟨_, rfl, ?_⟩; replace BK430 := aM (KeepBut.blk hk (g' := gb430) (o := .cells #[.slice none 0 0, .int .i64 0, .int .i64 0, .int .i64 0, .int .i64 0] 28 (0, 0)) (zK BK430) NB430_0.out (by simp)); replace BK437 := aM (KeepBut.blk hk (g' := gb437) (o := .cells #[.slice none 0 0, .int .i64 t431, .int .i64 (wrap64 (t431 + t438)), .int .i64 x438003_5, .int .i64 t434] 28 (0, 0)) (zK BK437) NB437_0.out (by simp)); replace HK := aM (KeepBut.trans (by repeat (first | (with_reducible first | exact HK.out | apply KeepBut.set_ | apply keep_drewN | apply keep_drew | apply keep_alloc | refine keep_far ?_ GW430.out _ | refine keep_far ?_ GW437.out _) | exact HK.out)) hk (.inl rfl)); replace HB := aM (hb); replace HI0 := aM (hi); (try clear hb); (try clear hk); (try clear hi)) | ((with_reducible refine gate_callee (f := 122) rfl ?_); refine zGl (some 50) Try.func122 #[.pointer (some ⟨g, 0, none⟩), .int .i64 4] ?_; (with_reducible refine (spec_l01Cur_pick.calls g s0_0 t442 t443 4 t458 t459 t460 w0 _ ?side1 ?side2 A56.out).mono ?_); (case side1 => repeat (first | (with_reducible first | exact HI0.out | apply IsS126.alloc | apply IsS126.drewN | apply IsS126.drew | apply IsS126.set_1 | apply IsS126.set_2 | refine IsS126.far ?_ NB0_430.out _ | refine IsS126.far ?_ NB0_437.out _) | exact HI0.out)); (case side2 => repeat (first | (with_reducible first | exact HB.out | apply bA | apply bN | apply b1 | refine bS ?_ (IsS126.ge HI0.out) | refine bS ?_ GE430.out | refine bS ?_ GE437.out) | exact HB.out)); rintro e w58 ⟨rfl, hi, hb, hk⟩; refine ⟨_, rfl, ?_⟩; replace BK430 := aM (KeepBut.blk hk (g' := gb430) (o := .cells #[.slice none 0 0, .int .i64 0, .int .i64 0, .int .i64 0, .int .i64 0] 28 (0, 0)) (zK BK430) NB430_0.out (by simp)); replace BK437 := aM (KeepBut.blk hk (g' := gb437) (o := .cells #[.slice none 0 0, .int .i64 t431, .int .i64 (wrap64 (t431 + t438)), .int .i64 x438003_5, .int .i64 t434] 28 (0, 0)) (zK BK437) NB437_0.out (by simp)); replace HK := aM (KeepBut.trans (by repeat (first | (with_reducible first | exact HK.out | apply KeepBut.set_ | apply keep_drewN | apply keep_drew | apply keep_alloc | refine keep_far ?_ GW430.out _ | refine keep_far ?_ GW437.out _) | exact HK.out)) hk (.inl rfl)); replace HB := aM (hb); replace HI0 := aM (hi); (try clear hb); (try clear hk); (try clear hi); have hnb59 := NB437_430.out; have hnc59 := NB430_437.out; have hnb60 := NB437_0.out; have hnc60 := NB0_437.out; obtain ⟨hcz61_0, hcz61_1, hcz61_2, hcz61_3, hcz61_4⟩ := kk5 BK437; obtain ⟨hfz61_0, hfz61_1, hfz61_2, hfz61_3, hfz61_4⟩ := kg5 BK437; have hnb62 := NB430_0.out; have hnc62 := NB0_430.out; obtain ⟨hcz63_0, hcz63_1, hcz63_2, hcz63_3, hcz63_4⟩ := kk5 BK430; obtain ⟨hfz63_0, hfz63_1, hfz63_2, hfz63_3, hfz63_4⟩ := kg5 BK430))
      refine bodyPost_ret (results_cell_row rfl _ _ gb430 28 #[.slice none 0 0, .int .i64 t431, .int .i64 (wrap64 (t431 + t438)), .int .i64 t458, .int .i64 t434] (0, 0) _ rfl (by (with_reducible repeat (first | apply kN | apply kD | apply kA)); refine blk_put (cs := #[.slice none 0 0, .int .i64 t431, .int .i64 (wrap64 (t431 + t438)), .int .i64 t458, .int .i64 0]) ?_ 4 _ rfl; (with_reducible repeat (first | apply kN | apply kD | apply kA)); refine blk_put (cs := #[.slice none 0 0, .int .i64 t431, .int .i64 (wrap64 (t431 + t438)), .int .i64 0, .int .i64 0]) ?_ 3 _ rfl; (with_reducible repeat (first | apply kN | apply kD | apply kA)); refine blk_put (cs := #[.slice none 0 0, .int .i64 t431, .int .i64 0, .int .i64 0, .int .i64 0]) ?_ 2 _ rfl; (with_reducible repeat (first | apply kN | apply kD | apply kA)); refine blk_put (cs := #[.slice none 0 0, .int .i64 0, .int .i64 0, .int .i64 0, .int .i64 0]) ?_ 1 _ rfl; (with_reducible repeat (first | apply kN | apply kD | apply kA)); refine blk_put (cs := #[.slice none 0 0, .int .i64 0, .int .i64 0, .int .i64 0, .int .i64 0]) ?_ 0 _ rfl; (with_reducible repeat (first | apply kN | apply kD | apply kA)); refine blk_far ?_ NB430_437.out _; (with_reducible repeat (first | apply kN | apply kD | apply kA)); exact BK430.out) Try.underlying28 rfl (by kernel_rfl)) rfl ?_
      exact ⟨_, zR, by first | exact Kd.R_nil _ _ _ _ _ | exact Kd.N_nil _ _ _ _ _ | exact Kd.V_nil _ _ _ _ _ | exact Kd.Q_nil _ _ _ _ _ | exact Kd.S_nil _ _ _ _ _, by repeat (first | (with_reducible first | exact HI0.out | apply IsS126.alloc | apply IsS126.drewN | apply IsS126.drew | apply IsS126.set_1 | apply IsS126.set_2 | refine IsS126.far ?_ NB0_430.out _ | refine IsS126.far ?_ NB0_437.out _) | exact HI0.out), by repeat (first | (with_reducible first | exact HB.out | apply bA | apply bN | apply b1 | refine bS ?_ (IsS126.ge HI0.out) | refine bS ?_ GE430.out | refine bS ?_ GE437.out) | exact HB.out), by repeat (first | (with_reducible first | exact HK.out | apply KeepBut.set_ | apply keep_drewN | apply keep_drew | apply keep_alloc | refine keep_far ?_ GW430.out _ | refine keep_far ?_ GW437.out _) | exact HK.out)⟩
     ·rw [if_neg c55] at H
      have c55b0 : (t441 == 2) = false := beq_eq_false_iff_ne.mpr c55
      have c55b1 : (t441 != 2) = true := bne_iff_ne.mpr c55
      simp only [Option.some.injEq, Prod.mk.injEq] at H
      obtain ⟨rfl, rfl, rfl, rfl, rfl, rfl, rfl⟩ := H
      go_wp2_with (first | ((with_reducible refine gate_callee (f := 122) rfl ?_); refine zGl (some 27) Try.func122 #[.pointer (some ⟨g, 0, none⟩), .int .i64 20] ?_; (with_reducible refine (spec_l01Cur_pick.calls g s0_0 t439 t440 20 t441 t442 t443 w0 _ ?side1 ?side2 A22.out).mono ?_); (case side1 => repeat (first | (with_reducible first | exact HI0.out | apply IsS126.alloc | apply IsS126.drewN | apply IsS126.drew | apply IsS126.set_1 | apply IsS126.set_2 | refine IsS126.far ?_ NB0_430.out _ | refine IsS126.far ?_ NB0_437.out _) | exact HI0.out)); (case side2 => repeat (first | (with_reducible first | exact HB.out | apply bA | apply bN | apply b1 | refine bS ?_ (IsS126.ge HI0.out) | refine bS ?_ GE430.out | refine bS ?_ GE437.out) | exact HB.out)); rintro e w64 ⟨rfl, hi, hb, hk⟩; refine ⟨_, rfl, ?_⟩; replace BK430 := aM (KeepBut.blk hk (g' := gb430) (o := .cells #[.slice none 0 0, .int .i64 0, .int .i64 0, .int .i64 0, .int .i64 0] 28 (0, 0)) (zK BK430) NB430_0.out (by simp)); replace BK437 := aM (KeepBut.blk hk (g' := gb437) (o := .cells #[.slice none 0 0, .int .i64 t431, .int .i64 (wrap64 (t431 + t438)), .int .i64 x438003_5, .int .i64 t434] 28 (0, 0)) (zK BK437) NB437_0.out (by simp)); replace HK := aM (KeepBut.trans (by repeat (first | (with_reducible first | exact HK.out | apply KeepBut.set_ | apply keep_drewN | apply keep_drew | apply keep_alloc | refine keep_far ?_ GW430.out _ | refine keep_far ?_ GW437.out _) | exact HK.out)) hk (.inl rfl)); replace HB := aM (hb); replace HI0 := aM (hi); (try clear hb); (try clear hk); (try clear hi); have hnb65 := NB437_430.out; have hnc65 := NB430_437.out; have hnb66 := NB437_0.out; have hnc66 := NB0_437.out; obtain ⟨hcz67_0, hcz67_1, hcz67_2, hcz67_3, hcz67_4⟩ := kk5 BK437; obtain ⟨hfz67_0, hfz67_1, hfz67_2, hfz67_3, hfz67_4⟩ := kg5 BK437; have hnb68 := NB430_0.out; have hnc68 := NB0_430.out; obtain ⟨hcz69_0, hcz69_1, hcz69_2, hcz69_3, hcz69_4⟩ := kk5 BK430; obtain ⟨hfz69_0, hfz69_1, hfz69_2, hfz69_3, hfz69_4⟩ := kg5 BK430))
      refine bodyPost_ret (results_cell_row rfl _ _ gb430 28 #[.slice none 0 0, .int .i64 t431, .int .i64 (wrap64 (t431 + t438)), .int .i64 x438003_5, .int .i64 t434] (0, 0) _ rfl (by (with_reducible repeat (first | apply kN | apply kD | apply kA)); refine blk_put (cs := #[.slice none 0 0, .int .i64 t431, .int .i64 (wrap64 (t431 + t438)), .int .i64 x438003_5, .int .i64 0]) ?_ 4 _ rfl; (with_reducible repeat (first | apply kN | apply kD | apply kA)); refine blk_put (cs := #[.slice none 0 0, .int .i64 t431, .int .i64 (wrap64 (t431 + t438)), .int .i64 0, .int .i64 0]) ?_ 3 _ rfl; (with_reducible repeat (first | apply kN | apply kD | apply kA)); refine blk_put (cs := #[.slice none 0 0, .int .i64 t431, .int .i64 0, .int .i64 0, .int .i64 0]) ?_ 2 _ rfl; (with_reducible repeat (first | apply kN | apply kD | apply kA)); refine blk_put (cs := #[.slice none 0 0, .int .i64 0, .int .i64 0, .int .i64 0, .int .i64 0]) ?_ 1 _ rfl; (with_reducible repeat (first | apply kN | apply kD | apply kA)); refine blk_put (cs := #[.slice none 0 0, .int .i64 0, .int .i64 0, .int .i64 0, .int .i64 0]) ?_ 0 _ rfl; (with_reducible repeat (first | apply kN | apply kD | apply kA)); exact BK430.out) Try.underlying28 rfl (by kernel_rfl)) rfl ?_
      exact ⟨_, zR, by first | exact Kd.R_nil _ _ _ _ _ | exact Kd.N_nil _ _ _ _ _ | exact Kd.V_nil _ _ _ _ _ | exact Kd.Q_nil _ _ _ _ _ | exact Kd.S_nil _ _ _ _ _, by repeat (first | (with_reducible first | exact HI0.out | apply IsS126.alloc | apply IsS126.drewN | apply IsS126.drew | apply IsS126.set_1 | apply IsS126.set_2 | refine IsS126.far ?_ NB0_430.out _ | refine IsS126.far ?_ NB0_437.out _) | exact HI0.out), by repeat (first | (with_reducible first | exact HB.out | apply bA | apply bN | apply b1 | refine bS ?_ (IsS126.ge HI0.out) | refine bS ?_ GE430.out | refine bS ?_ GE437.out) | exact HB.out), by repeat (first | (with_reducible first | exact HK.out | apply KeepBut.set_ | apply keep_drewN | apply keep_drew | apply keep_alloc | refine keep_far ?_ GW430.out _ | refine keep_far ?_ GW437.out _) | exact HK.out)⟩

theorem drawScanP {code : List Int} (hc : CodeOk code) {a s : Int} (m : Nat) (h : CurOk m a s) (hm : m ≤ 100000) (b : Bool) : EvP (fun k => spec_l13DrawScan.f k code a s b) (fun _ => True) := by
  have j0 : ∀ (a s x1 x2 x3 x4 : Int) (m : Nat), CurOk m a s → m ≤ 1000000 → EvP (fun k => spec_l13DrawScan.j0 k code a s x1 x2 x3 x4) (fun _ => True) := fun a s x1 x2 x3 x4 m hk hm => by
    refine evpStep (fun k => by rw [spec_l13DrawScan.j0]) (evpBind (pickP m hc hk (by omega)) (fun c hc' => evpIf (fun _ => ?_) (fun _ => evpIf (fun _ => ?_) (fun _ => evpIf (fun _ => ?_) (fun _ => evpNow rfl trivial)))))
    · refine evpBind (evpNow rfl rfl) (fun y hy => ?_)
      subst hy
      exact evpBind (pickP _ hc hc'.2 (by omega)) (fun g hg => evpPos hg.1.1 (evpPos (by simp; omega) (evpNow rfl trivial)))
    · refine evpBind (evpNow rfl rfl) (fun y hy => ?_)
      subst hy
      exact evpBind (pickP _ hc hc'.2 (by omega)) (fun g hg => evpPos hg.1.1 (evpPos (by simp; omega) (evpNow rfl trivial)))
    · exact evpBind (pickP _ hc hc'.2 (by omega)) (fun g hg => evpNow rfl trivial)
  unfold spec_l13DrawScan.f
  refine evpBind (pickP m hc h (by omega)) (fun x hx => evpBind (pickP _ hc hx.2 (by omega)) (fun y hy => evpBind (pickP _ hc hy.2 (by omega)) (fun z hz => evpIf (fun _ => ?_) (fun _ => ?_))))
  · exact j0 _ _ _ _ _ _ _ hz.2 (by omega)
  · exact j0 _ _ _ _ _ _ _ hz.2 (by omega)

theorem sepON {α : Type} {d : Kd α} {e N : Nat} {W w1 : World} {base : Nat} {ok : Nat → Prop} {v : Value} {xs : List α} (h : d.N e W base ok v xs) (hN : N = W.heap.size) (hb : Below W.heap.size W w1) : d.N e w1 base (fun k => ok k ∧ k < N) v xs := by
  subst hN
  exact Kd.N_old h hb

/-! ### spec_DrawFirstOf: function 32 -/
def spec_DrawFirstOf.f (k : Nat) (l0 : List Int) : Option (List Int × List Int × Int × Int × Int × Int) := (spec_l01Open.f l0).bind fun bt462 => ((spec_l13DrawBlock.f k bt462.1 bt462.2.1 bt462.2.2).bind fun bt466 => ((spec_l13DrawScan.f k bt462.1 bt466.2.1 bt466.2.2 true).bind fun bt471 => (some (bt466.1, bt471.1, bt471.2.1, bt471.2.2.1, bt471.2.2.2.1, bt471.2.2.2.2.1))))
set_option maxHeartbeats 8000000 in
set_option maxRecDepth 100000 in
theorem spec_DrawFirstOf.calls (k : Nat) (A0 : Option Addr) (c0 : Nat) (l0 : List Int) (r1 : List Int) (r2 : List Int) (r3 : Int) (r4 : Int) (r5 : Int) (r6 : Int) (w : World) (hr0 : Kd.C (Kd.int .u8) w A0 l0.length l0) (hc0 : l0.length ≤ c0) (h : spec_DrawFirstOf.f k l0 = some (r1, r2, r3, r4, r5, r6)) :
  Calls Try.prog 32 #[.slice A0 l0.length c0] w fun e w' => ∃ v0_ v1_ : Value, e = .returned (.tuple #[v0_, .agg #[v1_, .int .i64 r3, .int .i64 r4, .int .i64 r5, .int .i64 r6]]) ∧ Kd.R (Kd.int .i64) 3 w' w.heap.size (fun k_ => some k_ ≠ (v1_ : Value).ownBlock) v0_ r1 ∧ Kd.R (Kd.int .i64) 3 w' w.heap.size (fun k_ => some k_ ≠ (v0_ : Value).ownBlock) v1_ r2 ∧ Below w.heap.size w w' := by
 have hu28 := Try.underlying28
 have HR0 := aM hr0
 have HC0 := aM hc0
 clear hr0 hc0
 have HB := aM (Below.refl w.heap.size w)
 have H : ((spec_l01Open.f l0).bind fun bt462 => ((spec_l13DrawBlock.f k bt462.1 bt462.2.1 bt462.2.2).bind fun bt466 => ((spec_l13DrawScan.f k bt462.1 bt466.2.1 bt466.2.2 true).bind fun bt471 => (some (bt466.1, bt471.1, bt471.2.1, bt471.2.2.1, bt471.2.2.2.1, bt471.2.2.2.2.1))))) = some (r1, r2, r3, r4, r5, r6) := h
 clear h
 replace H := oB H
 obtain ⟨⟨t462, t463, t464⟩, A20, H⟩ := H
 replace H : ((spec_l13DrawBlock.f k t462 t463 t464).bind fun bt466 => ((spec_l13DrawScan.f k t462 bt466.2.1 bt466.2.2 true).bind fun bt471 => (some (bt466.1, bt471.1, bt471.2.1, bt471.2.2.1, bt471.2.2.2.1, bt471.2.2.2.2.1)))) = some (r1, r2, r3, r4, r5, r6) := H
 have A2 := aM A20
 clear A20
 replace H := oB H
 obtain ⟨⟨t466, t469, t470⟩, A30, H⟩ := H
 replace H : ((spec_l13DrawScan.f k t462 t469 t470 true).bind fun bt471 => (some (t466, bt471.1, bt471.2.1, bt471.2.2.1, bt471.2.2.2.1, bt471.2.2.2.2.1))) = some (r1, r2, r3, r4, r5, r6) := H
 have A3 := aM A30
 clear A30
 replace H := oB H
 obtain ⟨⟨t471, t474, t475, t476, t477, t478, t479⟩, A40, H⟩ := H
 replace H : (some (t466, t471, t474, t475, t476, t477)) = some (r1, r2, r3, r4, r5, r6) := H
 have A4 := aM A40
 clear A40
 simp only [Option.some.injEq, Prod.mk.injEq] at H
 obtain ⟨rfl, rfl, rfl, rfl, rfl, rfl⟩ := H
 go_enter Try.func32, Try.ntmps32
 go_wp2_with (first | ((with_reducible refine gate_dst (N := 3) rfl ?_); refine box_event ?hg (N := 3) ?hd (cs := #[.slice none 0 0, .int .i64 0, .int .i64 0, .int .i64 0, .int .i64 0]) (t := 28) ?hr ?_; (case hd => rfl); (case hg => rfl); (case hr => first | (go_simp; done) | (go_simp; rfl)); intro gb461 hg w5 hbox hb; have BK461 := aM hbox; have GW461 := aM (zG hg : w.heap.size ≤ gb461); have GE461 := aM (zG hg : w.heap.size ≤ gb461); replace HB := cH HB hb; clear hb hbox hg) | (go_at_call 82; (with_reducible refine (spec_l01Open.calls _ _ l0 t462 t463 t464 w _ ?side1 ?side2 ?side3 A2.out).mono ?_); (case side1 => repeat (first | (with_reducible first | exact HB.out | apply bA | apply bN | apply b1 | refine bS ?_ GE461.out) | exact HB.out)); (case side2 => exact HR0.out); (case side3 => exact HC0.out); rintro e w6 ⟨g465, rfl, hi, hb, hb2⟩; replace HB := aM (hb); have HI465 := aM (hi); have NB465_461 := aM (IsS126.ne_blk hi (blk_below (g := gb461) (o := .cells #[.slice none 0 0, .int .i64 0, .int .i64 0, .int .i64 0, .int .i64 0] 28 (0, 0)) (zK BK461) hb2) (by decide)); have NB461_465 := aM (Ne.symm (IsS126.ne_blk hi (blk_below (g := gb461) (o := .cells #[.slice none 0 0, .int .i64 0, .int .i64 0, .int .i64 0, .int .i64 0] 28 (0, 0)) (zK BK461) hb2) (by decide))); replace BK461 := cB BK461 hb2; (try clear hb); (try clear hb2); (try clear hi)) | (go_at_call 83; (with_reducible refine (spec_l13DrawBlock.calls k g465 t462 t463 t464 t466 t469 t470 w _ ?side1 ?side2 A3.out).mono ?_); (case side1 => repeat (first | (with_reducible first | exact HI465.out | apply IsS126.alloc | apply IsS126.drewN | apply IsS126.drew | apply IsS126.set_1 | apply IsS126.set_2 | refine IsS126.far ?_ NB465_461.out _) | exact HI465.out)); (case side2 => repeat (first | (with_reducible first | exact HB.out | apply bA | apply bN | apply b1 | refine bS ?_ (IsS126.ge HI465.out) | refine bS ?_ GE461.out) | exact HB.out)); rintro e w7 ⟨v467, rfl, ho0, hi, hb, hk⟩; replace BK461 := aM (KeepBut.blk hk (g' := gb461) (o := .cells #[.slice none 0 0, .int .i64 0, .int .i64 0, .int .i64 0, .int .i64 0] 28 (0, 0)) (zK BK461) NB461_465.out (by simp)); have HO468 := aM (Kd.R_lower ho0 (below_size (by repeat (first | (with_reducible first | exact HB.out | apply bA | apply bN | apply b1 | refine bS ?_ (IsS126.ge HI465.out) | refine bS ?_ GE461.out) | exact HB.out)))); replace HB := aM (hb); replace HI465 := aM (hi); (try clear hb); (try clear hk); (try clear hi); (try clear ho0)) | (go_at_call 84; (with_reducible refine (spec_l13DrawScan.calls k g465 t462 t469 t470 true t471 t474 t475 t476 t477 t478 t479 w _ ?side1 ?side2 A4.out).mono ?_); (case side1 => repeat (first | (with_reducible first | exact HI465.out | apply IsS126.alloc | apply IsS126.drewN | apply IsS126.drew | apply IsS126.set_1 | apply IsS126.set_2 | refine IsS126.far ?_ NB465_461.out _) | exact HI465.out)); (case side2 => repeat (first | (with_reducible first | exact HB.out | apply bA | apply bN | apply b1 | refine bS ?_ (IsS126.ge HI465.out) | refine bS ?_ GE461.out) | exact HB.out)); rintro e w8 ⟨v472, rfl, ho0, hi, hb, hk⟩; replace BK461 := aM (KeepBut.blk hk (g' := gb461) (o := .cells #[.slice none 0 0, .int .i64 0, .int .i64 0, .int .i64 0, .int .i64 0] 28 (0, 0)) (zK BK461) NB461_465.out (by simp)); have HO473 := aM (Kd.R_lower (Kd.R_new' ho0 (Kd.R_lt (by (with_reducible repeat (first | apply Kd.R_alloc | apply Kd.R_drewN | apply Kd.R_drew)); exact HO468.out))) (below_size (by repeat (first | (with_reducible first | exact HB.out | apply bA | apply bN | apply b1 | refine bS ?_ (IsS126.ge HI465.out) | refine bS ?_ GE461.out) | exact HB.out)))); replace HO468 := aM (Kd.R_mono (Kd.R_told (Kd.R_oldK (IsS126.apart (show IsS126 w _ g465 t462 t469 t470 from by repeat (first | (with_reducible first | exact HI465.out | apply IsS126.alloc | apply IsS126.drewN | apply IsS126.drew | apply IsS126.set_1 | apply IsS126.set_2 | refine IsS126.far ?_ NB465_461.out _) | exact HI465.out)) (by (with_reducible repeat (first | apply Kd.R_alloc | apply Kd.R_drewN | apply Kd.R_drew)); exact HO468.out) (by decide)) hk) (Kd.R_base ho0)) (fun _ h_ => h_.1)); replace HB := aM (hb); replace HI465 := aM (hi); (try clear hb); (try clear hk); (try clear hi); (try clear ho0); obtain ⟨Ao9, co9, eo9⟩ := Kd.R_slice HO473.out; subst eo9; have hnb10 := NB461_465.out; have hnc10 := NB465_461.out; obtain ⟨hcz11_0, hcz11_1, hcz11_2, hcz11_3, hcz11_4⟩ := kk5 BK461; obtain ⟨hfz11_0, hfz11_1, hfz11_2, hfz11_3, hfz11_4⟩ := kg5 BK461))
 refine bodyPost_ret (results_tc rfl _ _ gb461 28 #[.slice Ao9 t471.length co9, .int .i64 t474, .int .i64 t475, .int .i64 t476, .int .i64 t477] (0, 0) _ rfl (by (with_reducible repeat (first | apply kN | apply kD | apply kA)); refine blk_put (cs := #[.slice Ao9 t471.length co9, .int .i64 t474, .int .i64 t475, .int .i64 t476, .int .i64 0]) ?_ 4 _ rfl; (with_reducible repeat (first | apply kN | apply kD | apply kA)); refine blk_put (cs := #[.slice Ao9 t471.length co9, .int .i64 t474, .int .i64 t475, .int .i64 0, .int .i64 0]) ?_ 3 _ rfl; (with_reducible repeat (first | apply kN | apply kD | apply kA)); refine blk_put (cs := #[.slice Ao9 t471.length co9, .int .i64 t474, .int .i64 0, .int .i64 0, .int .i64 0]) ?_ 2 _ rfl; (with_reducible repeat (first | apply kN | apply kD | apply kA)); refine blk_put (cs := #[.slice Ao9 t471.length co9, .int .i64 0, .int .i64 0, .int .i64 0, .int .i64 0]) ?_ 1 _ rfl; (with_reducible repeat (first | apply kN | apply kD | apply kA)); refine blk_put (cs := #[.slice none 0 0, .int .i64 0, .int .i64 0, .int .i64 0, .int .i64 0]) ?_ 0 _ rfl; (with_reducible repeat (first | apply kN | apply kD | apply kA)); exact BK461.out) Try.underlying28 rfl (by kernel_rfl)) rfl ?_
 exact ⟨_, _, zR, by (with_reducible repeat (first | apply Kd.R_alloc | apply Kd.R_drewN | apply Kd.R_drew)); exact Kd.R_mono (Kd.R_far (p := ⟨gb461, 4, none⟩) (Kd.R_far (p := ⟨gb461, 3, none⟩) (Kd.R_far (p := ⟨gb461, 2, none⟩) (Kd.R_far (p := ⟨gb461, 1, none⟩) (Kd.R_far (p := ⟨gb461, 0, none⟩) (Kd.R_types HO468.out BK461.out (by decide)) (fun _ hk => hk.2) (.slice Ao9 t471.length co9)) (fun _ hk => hk.2) (.int .i64 t474)) (fun _ hk => hk.2) (.int .i64 t475)) (fun _ hk => hk.2) (.int .i64 t476)) (fun _ hk => hk.2) (.int .i64 t477)) (fun _ hk => hk.1.2), by (with_reducible repeat (first | apply Kd.R_alloc | apply Kd.R_drewN | apply Kd.R_drew)); exact Kd.R_mono (Kd.R_far (p := ⟨gb461, 4, none⟩) (Kd.R_far (p := ⟨gb461, 3, none⟩) (Kd.R_far (p := ⟨gb461, 2, none⟩) (Kd.R_far (p := ⟨gb461, 1, none⟩) (Kd.R_far (p := ⟨gb461, 0, none⟩) (Kd.R_types HO473.out BK461.out (by decide)) (fun _ hk => hk.2) (.slice Ao9 t471.length co9)) (fun _ hk => hk.2) (.int .i64 t474)) (fun _ hk => hk.2) (.int .i64 t475)) (fun _ hk => hk.2) (.int .i64 t476)) (fun _ hk => hk.2) (.int .i64 t477)) (fun _ hk => hk.1.2), by repeat (first | (with_reducible first | exact HB.out | apply bA | apply bN | apply b1 | refine bS ?_ (IsS126.ge HI465.out) | refine bS ?_ GE461.out) | exact HB.out)⟩

theorem drawFirstP (code : List Int) (hc : CodeOk code) : EvP (fun k => spec_DrawFirstOf.f k code) (fun r => r.1.length ≤ 65) := by
  unfold spec_DrawFirstOf.f
  refine evpBind (open_f code hc) (fun o ho => ?_)
  rw [ho.1]
  exact evpBind (drawB13 hc 0 ho.2 (by omega)) (fun b hb => evpBind (drawScanP hc _ hb.2 (by omega) true) (fun c _ => evpNow rfl hb.1))

end Go.Proofs.Ythajjjpblkhmmaa.CP
