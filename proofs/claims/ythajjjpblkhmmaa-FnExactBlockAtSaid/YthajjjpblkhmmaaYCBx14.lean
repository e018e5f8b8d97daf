/- Functions that a law of this seat reaches: written by a program of this session (wip/xprint.py), and by hand. -/
import Derived.Test.YthajjjpblkhmmaaYMac
import Derived.Test.YthajjjpblkhmmaaYCBx0
import Derived.Test.YthajjjpblkhmmaaYCBx1
import Derived.Test.YthajjjpblkhmmaaYCBx2
import Derived.Test.YthajjjpblkhmmaaYCBx3
import Derived.Test.YthajjjpblkhmmaaYCBx4
import Derived.Test.YthajjjpblkhmmaaYCBx5
import Derived.Test.YthajjjpblkhmmaaYCBx9
import Derived.Test.YthajjjpblkhmmaaYCBx13
namespace Go.Proofs.Ythajjjpblkhmmaa.CB
open Go.RowKit Go.Proofs.Ythajjjpblkhmmaa.B Go.Proofs.YthajjjpblkhmmaaW.PrintWords Go.Proofs.YthajjjpblkhmmaaW.PrintLast Go.Proofs.YthajjjpblkhmmaaW.PrintMore
attribute [local go_sem] max2_int min2_int max_two min_two max_three min_three max_four min_four   -- for this text's walks alone
set_option linter.unusedVariables false
set_option linter.unusedSimpArgs false

/-! ### laws_FnExactBlockAt: function 14 -/
def laws_FnExactBlockAt.j0 : Nat → List Int → List Int → Bool → Int → Int → Int → Int → List (S130) → List (List (List Int)) → Int → Int → Int → Option (Bool)
  | 0, _, _, _, _, _, _, _, _, _, _, _, _ => none
  | k + 1, x8, x11, x69, x358000, x358001, x358002, x358003, x358004, x359000, x360000, x360001, x360002 => if x69 = true then (some false) else ((laws_markIntS.f k x11 1).bind fun bt414 => ((laws_heldIntS.f k bt414.2 1).bind fun t416 => (if t416 < 0 then (some false) else (if t416 = bt414.1 then ((laws_toFrame.f k x358000 x358001 x358002 x358003 x358004).bind fun bt417 => ((laws_toCoefs.f k x359000).bind fun t424 => ((laws_toPlace.f x360000 x360001 x360002).bind fun bt427 => ((impl_BlockAt.f k bt417.1 bt417.2.1 bt417.2.2.1 bt417.2.2.2.1 bt417.2.2.2.2 t424 bt427.1 bt427.2.1 bt427.2.2).bind fun t430 => ((laws_eqIntS.f k t430 x8).bind fun t433 => (if t433 = true then ((laws_heldIntS.f k bt414.2 1).bind fun t434 => (if t434 < 0 then (some false) else (if t434 = bt414.1 then (some true) else (some false)))) else (some false))))))) else (some false)))))
def laws_FnExactBlockAt.f (k : Nat) (a0_0 : Int) (a0_1 : Int) (a0_2 : Int) (a0_3 : Int) (l0_4 : List (S130)) (l1_0 : List (List (List Int))) (a2_0 : Int) (a2_1 : Int) (a2_2 : Int) : Option (Bool) := (laws_szFrame.f a0_0 a0_1 a0_2 a0_3 l0_4 1048576).bind fun t360 => (if t360 < 0 then (some true) else ((laws_szCoefs.f k l1_0 t360).bind fun t361 => (if t361 < 0 then (some true) else ((laws_toFrame.f k a0_0 a0_1 a0_2 a0_3 l0_4).bind fun bt362 => ((laws_toCoefs.f k l1_0).bind fun t369 => ((laws_toPlace.f a2_0 a2_1 a2_2).bind fun bt372 => ((spec_BlockAt.f k bt362.1 bt362.2.1 bt362.2.2.1 bt362.2.2.2.1 bt362.2.2.2.2 t369 bt372.1 bt372.2.1 bt372.2.2).bind fun t375 => ((laws_toFrame.f k a0_0 a0_1 a0_2 a0_3 l0_4).bind fun bt378 => ((laws_toCoefs.f k l1_0).bind fun t386 => ((laws_toPlace.f a2_0 a2_1 a2_2).bind fun bt390 => ((impl_BlockAt.f k bt378.1 bt378.2.1 bt378.2.2.1 bt378.2.2.2.1 bt378.2.2.2.2 t386 bt390.1 bt390.2.1 bt390.2.2).bind fun t393 => ((laws_eqIntS.f k t393 t375).bind fun t396 => (if t396 = true then ((laws_toFrame.f k a0_0 a0_1 a0_2 a0_3 l0_4).bind fun bt397 => ((laws_eqFrame.f k bt378.1 bt378.2.1 bt378.2.2.1 bt378.2.2.2.1 bt378.2.2.2.2 bt397.1 bt397.2.1 bt397.2.2.1 bt397.2.2.2.1 bt397.2.2.2.2).bind fun t404 => (if t404 = true then ((laws_toCoefs.f k l1_0).bind fun t405 => ((laws_eqCoefs.f k t386 t405).bind fun t408 => (if t408 = true then ((laws_markFrame.f k bt378.1 bt378.2.1 bt378.2.2.1 bt378.2.2.2.1 bt378.2.2.2.2 1).bind fun bt409 => ((laws_markCoefs.f k t386 bt409.1).bind fun bt411 => (if bt411.1 < 0 then (laws_FnExactBlockAt.j0 k t375 t393 true a0_0 a0_1 a0_2 a0_3 l0_4 l1_0 a2_0 a2_1 a2_2) else ((laws_eqIntS.f k t393 t375).bind fun t413 => (laws_FnExactBlockAt.j0 k t375 t393 (!t413) a0_0 a0_1 a0_2 a0_3 l0_4 l1_0 a2_0 a2_1 a2_2))))) else (some false)))) else (some false)))) else (some false))))))))))))))
def laws_FnExactBlockAt.T8 : Bool × List (List Nat × List Nat) := (true, [([], []), ([0], [0]), ([], []), ([2, 1], [2]), ([], []), ([4, 3], [4]), ([1, 3, 5, 5], [1, 3, 5]), ([6, 6, 0, 1, 2, 3, 4, 5, 6], [6])])
def laws_FnExactBlockAt.B8 : List Nat := [0, 1, 0, 7, 0, 31, 63, 127]
theorem laws_FnExactBlockAt.tab8 : rtab .any (opsOf Try.f14 8) = laws_FnExactBlockAt.T8 := by kernel_rfl
theorem laws_FnExactBlockAt.bits8 : waitsOk laws_FnExactBlockAt.T8.2 laws_FnExactBlockAt.B8 = true := by kernel_rfl
def laws_FnExactBlockAt.T31 : Bool × List (List Nat × List Nat) := (true, [([], []), ([0], [0]), ([], []), ([2, 1], [2]), ([], []), ([4, 3], [4]), ([1, 3, 5, 5], [1, 3, 5]), ([6, 6, 0, 1, 2, 3, 4, 5, 6], [6])])
def laws_FnExactBlockAt.B31 : List Nat := [0, 1, 0, 7, 0, 31, 63, 127]
theorem laws_FnExactBlockAt.tab31 : rtab .any (opsOf Try.f14 31) = laws_FnExactBlockAt.T31 := by kernel_rfl
theorem laws_FnExactBlockAt.bits31 : waitsOk laws_FnExactBlockAt.T31.2 laws_FnExactBlockAt.B31 = true := by kernel_rfl
set_option maxHeartbeats 8000000 in
set_option maxRecDepth 100000 in
theorem laws_FnExactBlockAt.calls (k : Nat) (a0_0 : Int) (a0_1 : Int) (a0_2 : Int) (a0_3 : Int) (A0_4 : Option Addr) (c0_4 : Nat) (l0_4 : List (S130)) (A1_0 : Option Addr) (c1_0 : Nat) (l1_0 : List (List (List Int))) (a2_0 : Int) (a2_1 : Int) (a2_2 : Int) (r : Bool) (w : World) (hr0_4 : Kd.C k130 w A0_4 l0_4.length l0_4) (hc0_4 : l0_4.length ≤ c0_4) (hr1_0 : Kd.C (Kd.slice 22 (Kd.slice 3 (Kd.int .i64))) w A1_0 l1_0.length l1_0) (hc1_0 : l1_0.length ≤ c1_0) (HTRUE_ : Aside0 (r = true)) (h : laws_FnExactBlockAt.f k a0_0 a0_1 a0_2 a0_3 l0_4 l1_0 a2_0 a2_1 a2_2 = some r) :
  Calls Try.prog 14 #[.agg #[.int .i64 a0_0, .int .i64 a0_1, .int .i64 a0_2, .int .i64 a0_3, .slice A0_4 l0_4.length c0_4], .agg #[.slice A1_0 l1_0.length c1_0], .agg #[.int .i64 a2_0, .int .i64 a2_1, .int .i64 a2_2]] w fun e w' => e = .returned (.bool r) ∧ Below w.heap.size w w' := by
 have hu55 := Try.underlying55
 have hu72 := Try.underlying72
 have hu85 := Try.underlying85
 have hu45 := Try.underlying45
 have hu63 := Try.underlying63
 have HR0_4 := aM hr0_4
 have HC0_4 := aM hc0_4
 clear hr0_4 hc0_4
 have HR1_0 := aM hr1_0
 have HC1_0 := aM hc1_0
 clear hr1_0 hc1_0
 have HB := aM (Below.refl w.heap.size w)
 have H : ((laws_szFrame.f a0_0 a0_1 a0_2 a0_3 l0_4 1048576).bind fun t360 => (if t360 < 0 then (some true) else ((laws_szCoefs.f k l1_0 t360).bind fun t361 => (if t361 < 0 then (some true) else ((laws_toFrame.f k a0_0 a0_1 a0_2 a0_3 l0_4).bind fun bt362 => ((laws_toCoefs.f k l1_0).bind fun t369 => ((laws_toPlace.f a2_0 a2_1 a2_2).bind fun bt372 => ((spec_BlockAt.f k bt362.1 bt362.2.1 bt362.2.2.1 bt362.2.2.2.1 bt362.2.2.2.2 t369 bt372.1 bt372.2.1 bt372.2.2).bind fun t375 => ((laws_toFrame.f k a0_0 a0_1 a0_2 a0_3 l0_4).bind fun bt378 => ((laws_toCoefs.f k l1_0).bind fun t386 => ((laws_toPlace.f a2_0 a2_1 a2_2).bind fun bt390 => ((impl_BlockAt.f k bt378.1 bt378.2.1 bt378.2.2.1 bt378.2.2.2.1 bt378.2.2.2.2 t386 bt390.1 bt390.2.1 bt390.2.2).bind fun t393 => ((laws_eqIntS.f k t393 t375).bind fun t396 => (if t396 = true then ((laws_toFrame.f k a0_0 a0_1 a0_2 a0_3 l0_4).bind fun bt397 => ((laws_eqFrame.f k bt378.1 bt378.2.1 bt378.2.2.1 bt378.2.2.2.1 bt378.2.2.2.2 bt397.1 bt397.2.1 bt397.2.2.1 bt397.2.2.2.1 bt397.2.2.2.2).bind fun t404 => (if t404 = true then ((laws_toCoefs.f k l1_0).bind fun t405 => ((laws_eqCoefs.f k t386 t405).bind fun t408 => (if t408 = true then ((laws_markFrame.f k bt378.1 bt378.2.1 bt378.2.2.1 bt378.2.2.2.1 bt378.2.2.2.2 1).bind fun bt409 => ((laws_markCoefs.f k t386 bt409.1).bind fun bt411 => (if bt411.1 < 0 then (laws_FnExactBlockAt.j0 k t375 t393 true a0_0 a0_1 a0_2 a0_3 l0_4 l1_0 a2_0 a2_1 a2_2) else ((laws_eqIntS.f k t393 t375).bind fun t413 => (laws_FnExactBlockAt.j0 k t375 t393 (!t413) a0_0 a0_1 a0_2 a0_3 l0_4 l1_0 a2_0 a2_1 a2_2))))) else (some false)))) else (some false)))) else (some false))))))))))))))) = some r := h
 clear h
 obtain ⟨t360, A4, H⟩ := oH H
 by_cases c5 : t360 < 0
 ·rw [if_pos c5] at H
  have c5b0 : decide (t360 < 0) = true := decide_eq_true c5
  clear c5
  obtain rfl := Option.some.inj H
  go_enter Try.func14, Try.ntmps14
  go_wp2_with (first | ((with_reducible refine gate_dst (N := 3) rfl ?_); refine box_event ?hg (N := 3) ?hd (cs := #[.int .i64 a0_0, .int .i64 a0_1, .int .i64 a0_2, .int .i64 a0_3, .slice A0_4 l0_4.length c0_4]) (t := 55) ?hr ?_; (case hd => rfl); (case hg => rfl); (case hr => first | (go_simp; done) | (go_simp; rfl)); intro gb357 hg w6 hbox hb; have BK357 := aM hbox; have GW357 := aM (zG hg : w.heap.size ≤ gb357); have GE357 := aM (zG hg : w.heap.size ≤ gb357); replace HB := cH HB hb; clear hb hbox hg) | ((with_reducible refine gate_dst (N := 4) rfl ?_); refine box_event ?hg (N := 4) ?hd (cs := #[.slice A1_0 l1_0.length c1_0]) (t := 72) ?hr ?_; (case hd => rfl); (case hg => rfl); (case hr => first | (go_simp; done) | (go_simp; rfl)); intro gb358 hg w7 hbox hb; have BK358 := aM hbox; have GW358 := aM (zG hg : w.heap.size ≤ gb358); have GE358 := aM (zG hg : w.heap.size ≤ gb358); replace HB := cH HB hb; have NB357_358 := aM ((zL hg BK357)); have NB358_357 := aM ((zM hg BK357)); replace BK357 := cB BK357 hb; clear hb hbox hg) | ((with_reducible refine gate_dst (N := 5) rfl ?_); refine box_event ?hg (N := 5) ?hd (cs := #[.int .i64 a2_0, .int .i64 a2_1, .int .i64 a2_2]) (t := 85) ?hr ?_; (case hd => rfl); (case hg => rfl); (case hr => first | (go_simp; done) | (go_simp; rfl)); intro gb359 hg w8 hbox hb; have BK359 := aM hbox; have GW359 := aM (zG hg : w.heap.size ≤ gb359); have GE359 := aM (zG hg : w.heap.size ≤ gb359); replace HB := cH HB hb; have NB357_359 := aM ((zL hg BK357)); have NB359_357 := aM ((zM hg BK357)); replace BK357 := cB BK357 hb; have NB358_359 := aM ((zL hg BK358)); have NB359_358 := aM ((zM hg BK358)); replace BK358 := cB BK358 hb; clear hb hbox hg; have hnb9 := NB357_358.out; have hnc9 := NB358_357.out; have hnb10 := NB357_359.out; have hnc10 := NB359_357.out; obtain ⟨hcz11_0, hcz11_1, hcz11_2, hcz11_3, hcz11_4⟩ := kk5 BK357; obtain ⟨hfz11_0, hfz11_1, hfz11_2, hfz11_3, hfz11_4⟩ := kg5 BK357) | (go_at_call 39; (with_reducible refine (laws_szFrame.calls a0_0 a0_1 a0_2 a0_3 _ _ l0_4 1048576 t360 _ ?side1 ?side2 A4.out).mono ?_); (case side1 => exact zC (Kd.C_below HR0_4.out HB.out)); (case side2 => exact HC0_4.out); rintro e w12 ⟨rfl, hb⟩; replace BK357 := cB BK357 hb; replace BK358 := cB BK358 hb; replace BK359 := cB BK359 hb; replace HB := cH HB hb; (try clear hb)))
  go_ret
  exact ⟨zR, zH⟩
 ·rw [if_neg c5] at H
  have c5b0 : decide (t360 < 0) = false := decide_eq_false c5
  clear c5
  obtain ⟨t361, A13, H⟩ := oH H
  by_cases c14 : t361 < 0
  ·rw [if_pos c14] at H
   have c14b0 : decide (t361 < 0) = true := decide_eq_true c14
   clear c14
   obtain rfl := Option.some.inj H
   go_enter Try.func14, Try.ntmps14
   go_wp2_with (first | ((with_reducible refine gate_dst (N := 3) rfl ?_); refine box_event ?hg (N := 3) ?hd (cs := #[.int .i64 a0_0, .int .i64 a0_1, .int .i64 a0_2, .int .i64 a0_3, .slice A0_4 l0_4.length c0_4]) (t := 55) ?hr ?_; (case hd => rfl); (case hg => rfl); (case hr => first | (go_simp; done) | (go_simp; rfl)); intro gb357 hg w15 hbox hb; have BK357 := aM hbox; have GW357 := aM (zG hg : w.heap.size ≤ gb357); have GE357 := aM (zG hg : w.heap.size ≤ gb357); replace HB := cH HB hb; clear hb hbox hg) | ((with_reducible refine gate_dst (N := 4) rfl ?_); refine box_event ?hg (N := 4) ?hd (cs := #[.slice A1_0 l1_0.length c1_0]) (t := 72) ?hr ?_; (case hd => rfl); (case hg => rfl); (case hr => first | (go_simp; done) | (go_simp; rfl)); intro gb358 hg w16 hbox hb; have BK358 := aM hbox; have GW358 := aM (zG hg : w.heap.size ≤ gb358); have GE358 := aM (zG hg : w.heap.size ≤ gb358); replace HB := cH HB hb; have NB357_358 := aM ((zL hg BK357)); have NB358_357 := aM ((zM hg BK357)); replace BK357 := cB BK357 hb; clear hb hbox hg) | ((with_reducible refine gate_dst (N := 5) rfl ?_); refine box_event ?hg (N := 5) ?hd (cs := #[.int .i64 a2_0, .int .i64 a2_1, .int .i64 a2_2]) (t := 85) ?hr ?_; (case hd => rfl); (case hg => rfl); (case hr => first | (go_simp; done) | (go_simp; rfl)); intro gb359 hg w17 hbox hb; have BK359 := aM hbox; have GW359 := aM (zG hg : w.heap.size ≤ gb359); have GE359 := aM (zG hg : w.heap.size ≤ gb359); replace HB := cH HB hb; have NB357_359 := aM ((zL hg BK357)); have NB359_357 := aM ((zM hg BK357)); replace BK357 := cB BK357 hb; have NB358_359 := aM ((zL hg BK358)); have NB359_358 := aM ((zM hg BK358)); replace BK358 := cB BK358 hb; clear hb hbox hg; have hnb18 := NB357_358.out; have hnc18 := NB358_357.out; have hnb19 := NB357_359.out; have hnc19 := NB359_357.out; obtain ⟨hcz20_0, hcz20_1, hcz20_2, hcz20_3, hcz20_4⟩ := kk5 BK357; obtain ⟨hfz20_0, hfz20_1, hfz20_2, hfz20_3, hfz20_4⟩ := kg5 BK357) | (go_at_call 39; (with_reducible refine (laws_szFrame.calls a0_0 a0_1 a0_2 a0_3 _ _ l0_4 1048576 t360 _ ?side1 ?side2 A4.out).mono ?_); (case side1 => exact zC (Kd.C_below HR0_4.out HB.out)); (case side2 => exact HC0_4.out); rintro e w21 ⟨rfl, hb⟩; replace BK357 := cB BK357 hb; replace BK358 := cB BK358 hb; replace BK359 := cB BK359 hb; replace HB := cH HB hb; (try clear hb); have hnb22 := NB358_359.out; have hnc22 := NB359_358.out; have hcz23_0 := kk1 BK358; have hfz23_0 := kg1 BK358) | (go_at_call 54; (with_reducible refine (laws_szCoefs.calls k _ _ l1_0 t360 t361 _ ?side1 ?side2 A13.out).mono ?_); (case side1 => exact zC (Kd.C_below HR1_0.out HB.out)); (case side2 => exact HC1_0.out); rintro e w24 ⟨rfl, hb⟩; replace BK357 := cB BK357 hb; replace BK358 := cB BK358 hb; replace BK359 := cB BK359 hb; replace HB := cH HB hb; (try clear hb)))
   go_ret
   exact ⟨zR, zH⟩
  ·rw [if_neg c14] at H
   have c14b0 : decide (t361 < 0) = false := decide_eq_false c14
   clear c14
   replace H := oB H
   obtain ⟨⟨t362, t363, t364, t365, t366⟩, A250, H⟩ := H
   replace H : ((laws_toCoefs.f k l1_0).bind fun t369 => ((laws_toPlace.f a2_0 a2_1 a2_2).bind fun bt372 => ((spec_BlockAt.f k t362 t363 t364 t365 t366 t369 bt372.1 bt372.2.1 bt372.2.2).bind fun t375 => ((laws_toFrame.f k a0_0 a0_1 a0_2 a0_3 l0_4).bind fun bt378 => ((laws_toCoefs.f k l1_0).bind fun t386 => ((laws_toPlace.f a2_0 a2_1 a2_2).bind fun bt390 => ((impl_BlockAt.f k bt378.1 bt378.2.1 bt378.2.2.1 bt378.2.2.2.1 bt378.2.2.2.2 t386 bt390.1 bt390.2.1 bt390.2.2).bind fun t393 => ((laws_eqIntS.f k t393 t375).bind fun t396 => (if t396 = true then ((laws_toFrame.f k a0_0 a0_1 a0_2 a0_3 l0_4).bind fun bt397 => ((laws_eqFrame.f k bt378.1 bt378.2.1 bt378.2.2.1 bt378.2.2.2.1 bt378.2.2.2.2 bt397.1 bt397.2.1 bt397.2.2.1 bt397.2.2.2.1 bt397.2.2.2.2).bind fun t404 => (if t404 = true then ((laws_toCoefs.f k l1_0).bind fun t405 => ((laws_eqCoefs.f k t386 t405).bind fun t408 => (if t408 = true then ((laws_markFrame.f k bt378.1 bt378.2.1 bt378.2.2.1 bt378.2.2.2.1 bt378.2.2.2.2 1).bind fun bt409 => ((laws_markCoefs.f k t386 bt409.1).bind fun bt411 => (if bt411.1 < 0 then (laws_FnExactBlockAt.j0 k t375 t393 true a0_0 a0_1 a0_2 a0_3 l0_4 l1_0 a2_0 a2_1 a2_2) else ((laws_eqIntS.f k t393 t375).bind fun t413 => (laws_FnExactBlockAt.j0 k t375 t393 (!t413) a0_0 a0_1 a0_2 a0_3 l0_4 l1_0 a2_0 a2_1 a2_2))))) else (some false)))) else (some false)))) else (some false)))))))))) = some r := H
   have A25 := aM A250
   clear A250
   obtain ⟨t369, A26, H⟩ := oH H
   replace H := oB H
   obtain ⟨⟨t372, t373, t374⟩, A270, H⟩ := H
   replace H : ((spec_BlockAt.f k t362 t363 t364 t365 t366 t369 t372 t373 t374).bind fun t375 => ((laws_toFrame.f k a0_0 a0_1 a0_2 a0_3 l0_4).bind fun bt378 => ((laws_toCoefs.f k l1_0).bind fun t386 => ((laws_toPlace.f a2_0 a2_1 a2_2).bind fun bt390 => ((impl_BlockAt.f k bt378.1 bt378.2.1 bt378.2.2.1 bt378.2.2.2.1 bt378.2.2.2.2 t386 bt390.1 bt390.2.1 bt390.2.2).bind fun t393 => ((laws_eqIntS.f k t393 t375).bind fun t396 => (if t396 = true then ((laws_toFrame.f k a0_0 a0_1 a0_2 a0_3 l0_4).bind fun bt397 => ((laws_eqFrame.f k bt378.1 bt378.2.1 bt378.2.2.1 bt378.2.2.2.1 bt378.2.2.2.2 bt397.1 bt397.2.1 bt397.2.2.1 bt397.2.2.2.1 bt397.2.2.2.2).bind fun t404 => (if t404 = true then ((laws_toCoefs.f k l1_0).bind fun t405 => ((laws_eqCoefs.f k t386 t405).bind fun t408 => (if t408 = true then ((laws_markFrame.f k bt378.1 bt378.2.1 bt378.2.2.1 bt378.2.2.2.1 bt378.2.2.2.2 1).bind fun bt409 => ((laws_markCoefs.f k t386 bt409.1).bind fun bt411 => (if bt411.1 < 0 then (laws_FnExactBlockAt.j0 k t375 t393 true a0_0 a0_1 a0_2 a0_3 l0_4 l1_0 a2_0 a2_1 a2_2) else ((laws_eqIntS.f k t393 t375).bind fun t413 => (laws_FnExactBlockAt.j0 k t375 t393 (!t413) a0_0 a0_1 a0_2 a0_3 l0_4 l1_0 a2_0 a2_1 a2_2))))) else (some false)))) else (some false)))) else (some false)))))))) = some r := H
   have A27 := aM A270
   clear A270
   obtain ⟨t375, A28, H⟩ := oH H
   replace H := oB H
   obtain ⟨⟨t378, t379, t380, t381, t382⟩, A290, H⟩ := H
   replace H : ((laws_toCoefs.f k l1_0).bind fun t386 => ((laws_toPlace.f a2_0 a2_1 a2_2).bind fun bt390 => ((impl_BlockAt.f k t378 t379 t380 t381 t382 t386 bt390.1 bt390.2.1 bt390.2.2).bind fun t393 => ((laws_eqIntS.f k t393 t375).bind fun t396 => (if t396 = true then ((laws_toFrame.f k a0_0 a0_1 a0_2 a0_3 l0_4).bind fun bt397 => ((laws_eqFrame.f k t378 t379 t380 t381 t382 bt397.1 bt397.2.1 bt397.2.2.1 bt397.2.2.2.1 bt397.2.2.2.2).bind fun t404 => (if t404 = true then ((laws_toCoefs.f k l1_0).bind fun t405 => ((laws_eqCoefs.f k t386 t405).bind fun t408 => (if t408 = true then ((laws_markFrame.f k t378 t379 t380 t381 t382 1).bind fun bt409 => ((laws_markCoefs.f k t386 bt409.1).bind fun bt411 => (if bt411.1 < 0 then (laws_FnExactBlockAt.j0 k t375 t393 true a0_0 a0_1 a0_2 a0_3 l0_4 l1_0 a2_0 a2_1 a2_2) else ((laws_eqIntS.f k t393 t375).bind fun t413 => (laws_FnExactBlockAt.j0 k t375 t393 (!t413) a0_0 a0_1 a0_2 a0_3 l0_4 l1_0 a2_0 a2_1 a2_2))))) else (some false)))) else (some false)))) else (some false)))))) = some r := H
   have A29 := aM A290
   clear A290
   obtain ⟨t386, A30, H⟩ := oH H
   replace H := oB H
   obtain ⟨⟨t390, t391, t392⟩, A310, H⟩ := H
   replace H : ((impl_BlockAt.f k t378 t379 t380 t381 t382 t386 t390 t391 t392).bind fun t393 => ((laws_eqIntS.f k t393 t375).bind fun t396 => (if t396 = true then ((laws_toFrame.f k a0_0 a0_1 a0_2 a0_3 l0_4).bind fun bt397 => ((laws_eqFrame.f k t378 t379 t380 t381 t382 bt397.1 bt397.2.1 bt397.2.2.1 bt397.2.2.2.1 bt397.2.2.2.2).bind fun t404 => (if t404 = true then ((laws_toCoefs.f k l1_0).bind fun t405 => ((laws_eqCoefs.f k t386 t405).bind fun t408 => (if t408 = true then ((laws_markFrame.f k t378 t379 t380 t381 t382 1).bind fun bt409 => ((laws_markCoefs.f k t386 bt409.1).bind fun bt411 => (if bt411.1 < 0 then (laws_FnExactBlockAt.j0 k t375 t393 true a0_0 a0_1 a0_2 a0_3 l0_4 l1_0 a2_0 a2_1 a2_2) else ((laws_eqIntS.f k t393 t375).bind fun t413 => (laws_FnExactBlockAt.j0 k t375 t393 (!t413) a0_0 a0_1 a0_2 a0_3 l0_4 l1_0 a2_0 a2_1 a2_2))))) else (some false)))) else (some false)))) else (some false)))) = some r := H
   have A31 := aM A310
   clear A310
   obtain ⟨t393, A32, H⟩ := oH H
   obtain ⟨t396, A33, H⟩ := oH H
   by_cases c34 : t396 = true
   ·subst c34
    replace H := iT H
    replace H := oB H
    obtain ⟨⟨t397, t398, t399, t400, t401⟩, A350, H⟩ := H
    replace H : ((laws_eqFrame.f k t378 t379 t380 t381 t382 t397 t398 t399 t400 t401).bind fun t404 => (if t404 = true then ((laws_toCoefs.f k l1_0).bind fun t405 => ((laws_eqCoefs.f k t386 t405).bind fun t408 => (if t408 = true then ((laws_markFrame.f k t378 t379 t380 t381 t382 1).bind fun bt409 => ((laws_markCoefs.f k t386 bt409.1).bind fun bt411 => (if bt411.1 < 0 then (laws_FnExactBlockAt.j0 k t375 t393 true a0_0 a0_1 a0_2 a0_3 l0_4 l1_0 a2_0 a2_1 a2_2) else ((laws_eqIntS.f k t393 t375).bind fun t413 => (laws_FnExactBlockAt.j0 k t375 t393 (!t413) a0_0 a0_1 a0_2 a0_3 l0_4 l1_0 a2_0 a2_1 a2_2))))) else (some false)))) else (some false))) = some r := H
    have A35 := aM A350
    clear A350
    obtain ⟨t404, A36, H⟩ := oH H
    by_cases c37 : t404 = true
    ·subst c37
     replace H := iT H
     obtain ⟨t405, A38, H⟩ := oH H
     obtain ⟨t408, A39, H⟩ := oH H
     by_cases c40 : t408 = true
     ·subst c40
      replace H := iT H
      replace H := oB H
      obtain ⟨⟨t409, t410⟩, A410, H⟩ := H
      replace H : ((laws_markCoefs.f k t386 t409).bind fun bt411 => (if bt411.1 < 0 then (laws_FnExactBlockAt.j0 k t375 t393 true a0_0 a0_1 a0_2 a0_3 l0_4 l1_0 a2_0 a2_1 a2_2) else ((laws_eqIntS.f k t393 t375).bind fun t413 => (laws_FnExactBlockAt.j0 k t375 t393 (!t413) a0_0 a0_1 a0_2 a0_3 l0_4 l1_0 a2_0 a2_1 a2_2)))) = some r := H
      have A41 := aM A410
      clear A410
      replace H := oB H
      obtain ⟨⟨t411, t412⟩, A420, H⟩ := H
      replace H : (if t411 < 0 then (laws_FnExactBlockAt.j0 k t375 t393 true a0_0 a0_1 a0_2 a0_3 l0_4 l1_0 a2_0 a2_1 a2_2) else ((laws_eqIntS.f k t393 t375).bind fun t413 => (laws_FnExactBlockAt.j0 k t375 t393 (!t413) a0_0 a0_1 a0_2 a0_3 l0_4 l1_0 a2_0 a2_1 a2_2))) = some r := H
      have A42 := aM A420
      clear A420
      have HC43 := aM H
      clear H
      go_enter Try.func14, Try.ntmps14
      try go_wp2_with (first | ((with_reducible refine gate_dst (N := 3) rfl ?_); refine box_event ?hg (N := 3) ?hd (cs := #[.int .i64 a0_0, .int .i64 a0_1, .int .i64 a0_2, .int .i64 a0_3, .slice A0_4 l0_4.length c0_4]) (t := 55) ?hr ?_; (case hd => rfl); (case hg => rfl); (case hr => first | (go_simp; done) | (go_simp; rfl)); intro gb357 hg w44 hbox hb; have BK357 := aM hbox; have GW357 := aM (zG hg : w.heap.size ≤ gb357); have GE357 := aM (zG hg : w.heap.size ≤ gb357); replace HB := cH HB hb; clear hb hbox hg) | ((with_reducible refine gate_dst (N := 4) rfl ?_); refine box_event ?hg (N := 4) ?hd (cs := #[.slice A1_0 l1_0.length c1_0]) (t := 72) ?hr ?_; (case hd => rfl); (case hg => rfl); (case hr => first | (go_simp; done) | (go_simp; rfl)); intro gb358 hg w45 hbox hb; have BK358 := aM hbox; have GW358 := aM (zG hg : w.heap.size ≤ gb358); have GE358 := aM (zG hg : w.heap.size ≤ gb358); replace HB := cH HB hb; have NB357_358 := aM ((zL hg BK357)); have NB358_357 := aM ((zM hg BK357)); replace BK357 := cB BK357 hb; clear hb hbox hg) | ((with_reducible refine gate_dst (N := 5) rfl ?_); refine box_event ?hg (N := 5) ?hd (cs := #[.int .i64 a2_0, .int .i64 a2_1, .int .i64 a2_2]) (t := 85) ?hr ?_; (case hd => rfl); (case hg => rfl); (case hr => first | (go_simp; done) | (go_simp; rfl)); intro gb359 hg w46 hbox hb; have BK359 := aM hbox; have GW359 := aM (zG hg : w.heap.size ≤ gb359); have GE359 := aM (zG hg : w.heap.size ≤ gb359); replace HB := cH HB hb; have NB357_359 := aM ((zL hg BK357)); have NB359_357 := aM ((zM hg BK357)); replace BK357 := cB BK357 hb; have NB358_359 := aM ((zL hg BK358)); have NB359_358 := aM ((zM hg BK358)); replace BK358 := cB BK358 hb; clear hb hbox hg; have hnb47 := NB357_358.out; have hnc47 := NB358_357.out; have hnb48 := NB357_359.out; have hnc48 := NB359_357.out; obtain ⟨hcz49_0, hcz49_1, hcz49_2, hcz49_3, hcz49_4⟩ := kk5 BK357; obtain ⟨hfz49_0, hfz49_1, hfz49_2, hfz49_3, hfz49_4⟩ := kg5 BK357) | (go_at_call 39; (with_reducible refine (laws_szFrame.calls a0_0 a0_1 a0_2 a0_3 _ _ l0_4 1048576 t360 _ ?side1 ?side2 A4.out).mono ?_); (case side1 => exact zC (Kd.C_below HR0_4.out HB.out)); (case side2 => exact HC0_4.out); rintro e w50 ⟨rfl, hb⟩; replace BK357 := cB BK357 hb; replace BK358 := cB BK358 hb; replace BK359 := cB BK359 hb; replace HB := cH HB hb; (try clear hb); have hnb51 := NB358_359.out; have hnc51 := NB359_358.out; have hcz52_0 := kk1 BK358; have hfz52_0 := kg1 BK358) | (go_at_call 54; (with_reducible refine (laws_szCoefs.calls k _ _ l1_0 t360 t361 _ ?side1 ?side2 A13.out).mono ?_); (case side1 => exact zC (Kd.C_below HR1_0.out HB.out)); (case side2 => exact HC1_0.out); rintro e w53 ⟨rfl, hb⟩; replace BK357 := cB BK357 hb; replace BK358 := cB BK358 hb; replace BK359 := cB BK359 hb; replace HB := cH HB hb; (try clear hb)))
      have n0_ := aM (kD BK357.out)
      have n1_ := aM (kD BK358.out)
      have n2_ := aM (kD BK359.out)
      have n3_ := aM (b1 HB.out)
      clear BK357
      clear BK358
      clear BK359
      clear HB
      have BK357 := n0_
      have BK358 := n1_
      have BK359 := n2_
      have HB := n3_
      clear n0_ n1_ n2_ n3_
      refine start_ (n := 8) (S := fun w' => w'.cell? ⟨gb357, 0, none⟩ = some (.int .i64 a0_0) ∧ w'.cell? ⟨gb357, 1, none⟩ = some (.int .i64 a0_1) ∧ w'.cell? ⟨gb357, 2, none⟩ = some (.int .i64 a0_2) ∧ w'.cell? ⟨gb357, 3, none⟩ = some (.int .i64 a0_3) ∧ w'.cell? ⟨gb357, 4, none⟩ = some (.slice A0_4 l0_4.length c0_4) ∧ w'.cell? ⟨gb358, 0, none⟩ = some (.slice A1_0 l1_0.length c1_0) ∧ w'.cell? ⟨gb359, 0, none⟩ = some (.int .i64 a2_0) ∧ w'.cell? ⟨gb359, 1, none⟩ = some (.int .i64 a2_1) ∧ w'.cell? ⟨gb359, 2, none⟩ = some (.int .i64 a2_2)) (ds := []) #[false, false, false, false, false, false, false, false] (by kernel_rfl) rfl rfl ⟨(kC BK357.out 0).trans rfl, (kC BK357.out 1).trans rfl, (kC BK357.out 2).trans rfl, (kC BK357.out 3).trans rfl, (kC BK357.out 4).trans rfl, (kC BK358.out 0).trans rfl, (kC BK359.out 0).trans rfl, (kC BK359.out 1).trans rfl, (kC BK359.out 2).trans rfl⟩ (fun hHeld => ?_); refine with_tabW laws_FnExactBlockAt.tab8 laws_FnExactBlockAt.bits8 (fun HT_ HW_ => ?_)
      generalize w53.drew = w54 at BK357 BK358 BK359 HB hHeld ⊢
      refine zT 0 (some 26) HT_ HW_ hHeld (hy := Or.inl ⟨by rfl, by rintro w' ⟨s0, s1, s2, s3, s4, s5, s6, s7, s8⟩; go_simp; with_reducible rfl⟩) (h := ?_)
      refine zT 2 (some 28) HT_ HW_ hHeld (hy := Or.inl ⟨by rfl, by rintro w' ⟨s0, s1, s2, s3, s4, s5, s6, s7, s8⟩; go_simp; with_reducible rfl⟩) (h := ?_)
      refine zT 4 (some 30) HT_ HW_ hHeld (hy := Or.inl ⟨by rfl, by rintro w' ⟨s0, s1, s2, s3, s4, s5, s6, s7, s8⟩; go_simp; with_reducible rfl⟩) (h := ?_)
      refine zOn 1 (some 27) HT_ (fun K hK => ?_)
      refine zGo Try.func41 #[.agg #[.int .i64 a0_0, .int .i64 a0_1, .int .i64 a0_2, .int .i64 a0_3, .slice A0_4 l0_4.length c0_4]] ?_
      with_reducible refine (laws_toFrame.calls k a0_0 a0_1 a0_2 a0_3 _ _ l0_4 t362 t363 t364 t365 t366 _ ?side1 ?side2 A25.out).mono ?_
      (case side1 => exact zC (Kd.C_below HR0_4.out HB.out))
      (case side2 => exact HC0_4.out)
      rintro e w55 ⟨v367, rfl, ho0, hb⟩
      refine ⟨_, rfl, ?_⟩
      have n0_ := aM (Kd.R_lower ho0 (below_size zH))
      have n1_ := cB BK357 hb
      have n2_ := cB BK358 hb
      have n3_ := cB BK359 hb
      have n4_ := cH HB hb
      clear BK357
      clear BK358
      clear BK359
      clear HB
      have HO368 := n0_
      have BK357 := n1_
      have BK358 := n2_
      have BK359 := n3_
      have HB := n4_
      clear n0_ n1_ n2_ n3_ n4_
      (try clear hb)
      (try clear hb2)
      (try clear hk)
      (try clear hi)
      (try clear ho0)
      refine hK.out _ _ ⟨(kC BK357.out 0).trans rfl, (kC BK357.out 1).trans rfl, (kC BK357.out 2).trans rfl, (kC BK357.out 3).trans rfl, (kC BK357.out 4).trans rfl, (kC BK358.out 0).trans rfl, (kC BK359.out 0).trans rfl, (kC BK359.out 1).trans rfl, (kC BK359.out 2).trans rfl⟩ (fun hHeld => ?_)
      clear hK K
      refine zNo (some 27) ?_
      refine zOn 3 (some 29) HT_ (fun K hK => ?_)
      refine zGo Try.func56 #[.agg #[.slice A1_0 l1_0.length c1_0]] ?_
      with_reducible refine (laws_toCoefs.calls k _ _ l1_0 t369 _ ?side1 ?side2 A26.out).mono ?_
      (case side1 => exact zC (Kd.C_below HR1_0.out HB.out))
      (case side2 => exact HC1_0.out)
      rintro e w56 ⟨v370, rfl, ho0, hb⟩
      refine ⟨_, rfl, ?_⟩
      have n0_ := aM (Kd.R_below (by (with_reducible repeat (first | apply Kd.R_alloc | apply Kd.R_drewN | apply Kd.R_drew)); exact HO368.out) hb)
      have n1_ := aM (Kd.S_lower ho0 (below_size zH))
      have n2_ := cB BK357 hb
      have n3_ := cB BK358 hb
      have n4_ := cB BK359 hb
      have n5_ := cH HB hb
      clear HO368
      clear BK357
      clear BK358
      clear BK359
      clear HB
      have HO368 := n0_
      have HO371 := n1_
      have BK357 := n2_
      have BK358 := n3_
      have BK359 := n4_
      have HB := n5_
      clear n0_ n1_ n2_ n3_ n4_ n5_
      (try clear hb)
      (try clear hb2)
      (try clear hk)
      (try clear hi)
      (try clear ho0)
      refine hK.out _ _ ⟨(kC BK357.out 0).trans rfl, (kC BK357.out 1).trans rfl, (kC BK357.out 2).trans rfl, (kC BK357.out 3).trans rfl, (kC BK357.out 4).trans rfl, (kC BK358.out 0).trans rfl, (kC BK359.out 0).trans rfl, (kC BK359.out 1).trans rfl, (kC BK359.out 2).trans rfl⟩ (fun hHeld => ?_)
      clear hK K
      refine zNo (some 29) ?_
      refine zOn 5 (some 31) HT_ (fun K hK => ?_)
      refine zGo Try.func67 #[.agg #[.int .i64 a2_0, .int .i64 a2_1, .int .i64 a2_2]] ?_
      with_reducible refine (laws_toPlace.calls a2_0 a2_1 a2_2 t372 t373 t374 _ A27.out).mono ?_
      rintro e w57 ⟨rfl, hb⟩
      refine ⟨_, rfl, ?_⟩
      have n0_ := aM (Kd.R_below (by (with_reducible repeat (first | apply Kd.R_alloc | apply Kd.R_drewN | apply Kd.R_drew)); exact HO368.out) hb)
      have n1_ := aM (Kd.S_below (by (with_reducible repeat (first | apply Kd.S_alloc | apply Kd.S_drewN | apply Kd.S_drew)); exact HO371.out) hb)
      have n2_ := cB BK357 hb
      have n3_ := cB BK358 hb
      have n4_ := cB BK359 hb
      have n5_ := cH HB hb
      clear HO368
      clear HO371
      clear BK357
      clear BK358
      clear BK359
      clear HB
      have HO368 := n0_
      have HO371 := n1_
      have BK357 := n2_
      have BK358 := n3_
      have BK359 := n4_
      have HB := n5_
      clear n0_ n1_ n2_ n3_ n4_ n5_
      (try clear hb)
      (try clear hb2)
      (try clear hk)
      (try clear hi)
      obtain ⟨Ao58, co58, eo58⟩ := Kd.R_slice HO368.out
      (first | subst eo58 | (injection eo58 with f1_ f2_ f3_; have f4_ := f1_.symm; have f5_ := f3_.symm; clear f1_ f2_ f3_; subst f4_; subst f5_))
      obtain ⟨Ao59, co59, eo59⟩ := Kd.S_slice HO371.out
      (first | subst eo59 | (injection eo59 with f1_ f2_ f3_; have f4_ := f1_.symm; have f5_ := f3_.symm; clear f1_ f2_ f3_; subst f4_; subst f5_))
      refine hK.out _ _ ⟨(kC BK357.out 0).trans rfl, (kC BK357.out 1).trans rfl, (kC BK357.out 2).trans rfl, (kC BK357.out 3).trans rfl, (kC BK357.out 4).trans rfl, (kC BK358.out 0).trans rfl, (kC BK359.out 0).trans rfl, (kC BK359.out 1).trans rfl, (kC BK359.out 2).trans rfl⟩ (fun hHeld => ?_)
      clear hK K
      refine zNo (some 31) ?_
      refine zOn 6 (some 32) HT_ (fun K hK => ?_)
      refine zGo Try.func66 #[.agg #[.int .i64 t362, .int .i64 t363, .int .i64 t364, .int .i64 t365, .slice Ao58 t366.length co58], .agg #[.slice Ao59 t369.length co59], .agg #[.int .i64 t372, .int .i64 t373, .int .i64 t374]] ?_
      with_reducible refine (spec_BlockAt.calls k t362 t363 t364 t365 _ _ t366 _ _ t369 t372 t373 t374 t375 _ ?side1 ?side2 ?side3 ?side4 A28.out).mono ?_
      (case side1 => exact zC (Kd.R_reads' HO368.out).2.2)
      (case side2 => exact (Kd.R_reads' HO368.out).2.1)
      (case side3 => exact zC (Kd.S_reads' HO371.out).2.2)
      (case side4 => exact (Kd.S_reads' HO371.out).2.1)
      rintro e w60 ⟨v376, rfl, ho0, hb⟩
      refine ⟨_, rfl, ?_⟩
      have n0_ := aM (Kd.R_below (by (with_reducible repeat (first | apply Kd.R_alloc | apply Kd.R_drewN | apply Kd.R_drew)); exact HO368.out) hb)
      have n1_ := aM (Kd.S_elder' (by (with_reducible repeat (first | apply Kd.S_alloc | apply Kd.S_drewN | apply Kd.S_drew)); exact HO371.out) (Kd.R_base ho0) hb)
      have n2_ := aM (Kd.R_lower ho0 (below_size zH))
      have n3_ := cB BK357 hb
      have n4_ := cB BK358 hb
      have n5_ := cB BK359 hb
      have n6_ := cH HB hb
      clear HO368
      clear HO371
      clear BK357
      clear BK358
      clear BK359
      clear HB
      have HO368 := n0_
      have HO371 := n1_
      have HO377 := n2_
      have BK357 := n3_
      have BK358 := n4_
      have BK359 := n5_
      have HB := n6_
      clear n0_ n1_ n2_ n3_ n4_ n5_ n6_
      (try clear hb)
      (try clear hb2)
      (try clear hk)
      (try clear hi)
      (try clear ho0)
      refine hK.out _ _ ⟨(kC BK357.out 0).trans rfl, (kC BK357.out 1).trans rfl, (kC BK357.out 2).trans rfl, (kC BK357.out 3).trans rfl, (kC BK357.out 4).trans rfl, (kC BK358.out 0).trans rfl, (kC BK359.out 0).trans rfl, (kC BK359.out 1).trans rfl, (kC BK359.out 2).trans rfl⟩ (fun hHeld => ?_)
      clear hK K
      refine zNo (some 32) ?_
      refine zP 7 (some 8) HT_ ?_
      refine done_ (done_of HT_.out (by kernel_rfl)) ?_
      obtain ⟨hcz61_0, hcz61_1, hcz61_2, hcz61_3, hcz61_4⟩ := kk5 BK357
      obtain ⟨hfz61_0, hfz61_1, hfz61_2, hfz61_3, hfz61_4⟩ := kg5 BK357
      try go_wp2_with (first | (go_at_call 41; (with_reducible refine (laws_toFrame.calls k a0_0 a0_1 a0_2 a0_3 _ _ l0_4 t378 t379 t380 t381 t382 _ ?side1 ?side2 A29.out).mono ?_); (case side1 => exact zC (Kd.C_below HR0_4.out HB.out)); (case side2 => exact HC0_4.out); rintro e w62 ⟨v383, rfl, ho0, hb⟩; replace HO371 := aM (Kd.S_below (by (with_reducible repeat (first | apply Kd.S_alloc | apply Kd.S_drewN | apply Kd.S_drew)); exact HO371.out) hb); replace HO377 := aM (Kd.R_below (by (with_reducible repeat (first | apply Kd.R_alloc | apply Kd.R_drewN | apply Kd.R_drew)); exact HO377.out) hb); have HO384 := aM (Kd.R_lower (Kd.R_new' ho0 (Kd.R_lt (by (with_reducible repeat (first | apply Kd.R_alloc | apply Kd.R_drewN | apply Kd.R_drew)); exact HO368.out))) (below_size zH)); replace HO368 := aM (Kd.R_elder' (by (with_reducible repeat (first | apply Kd.R_alloc | apply Kd.R_drewN | apply Kd.R_drew)); exact HO368.out) (Kd.R_base ho0) hb); replace BK357 := cB BK357 hb; replace BK358 := cB BK358 hb; replace BK359 := cB BK359 hb; replace HB := cH HB hb; (try clear hb); (try clear ho0)) | ((with_reducible refine gate_dst (N := 9) rfl ?_); refine box_event ?hg (N := 9) ?hd (cs := #[.int .i64 0, .int .i64 0, .int .i64 0, .int .i64 0, .slice none 0 0]) (t := 45) ?hr ?_; (case hd => rfl); (case hg => rfl); (case hr => first | (go_simp; done) | (go_simp; rfl)); intro gb385 hg w63 hbox hb; replace HO368 := aM (Kd.R_below (by (with_reducible repeat (first | apply Kd.R_alloc | apply Kd.R_drewN | apply Kd.R_drew)); exact HO368.out) hb); replace HO371 := aM (Kd.S_below (by (with_reducible repeat (first | apply Kd.S_alloc | apply Kd.S_drewN | apply Kd.S_drew)); exact HO371.out) hb); replace HO377 := aM (Kd.R_below (by (with_reducible repeat (first | apply Kd.R_alloc | apply Kd.R_drewN | apply Kd.R_drew)); exact HO377.out) hb); replace HO384 := aM (Kd.R_below (by (with_reducible repeat (first | apply Kd.R_alloc | apply Kd.R_drewN | apply Kd.R_drew)); exact HO384.out) hb); have BK385 := aM hbox; have GW385 := aM (zG hg : w.heap.size ≤ gb385); have GE385 := aM (zG hg : w.heap.size ≤ gb385); replace HB := cH HB hb; have NB357_385 := aM ((zL hg BK357)); have NB385_357 := aM ((zM hg BK357)); replace BK357 := cB BK357 hb; have NB358_385 := aM ((zL hg BK358)); have NB385_358 := aM ((zM hg BK358)); replace BK358 := cB BK358 hb; have NB359_385 := aM ((zL hg BK359)); have NB385_359 := aM ((zM hg BK359)); replace BK359 := cB BK359 hb; clear hb hbox hg; have hnb64 := NB385_357.out; have hnc64 := NB357_385.out; have hnb65 := NB385_358.out; have hnc65 := NB358_385.out; have hnb66 := NB385_359.out; have hnc66 := NB359_385.out; obtain ⟨hcz67_0, hcz67_1, hcz67_2, hcz67_3, hcz67_4⟩ := kk5 BK385; obtain ⟨hfz67_0, hfz67_1, hfz67_2, hfz67_3, hfz67_4⟩ := kg5 BK385; obtain ⟨Ao68, co68, eo68⟩ := Kd.R_slice HO384.out; subst eo68; have hcz69_0 := kk1 BK358; have hfz69_0 := kg1 BK358) | (go_at_call 56; (with_reducible refine (laws_toCoefs.calls k _ _ l1_0 t386 _ ?side1 ?side2 A30.out).mono ?_); (case side1 => exact Kd.C_below HR1_0.out zH); (case side2 => exact HC1_0.out); rintro e w70 ⟨v387, rfl, ho0, hb⟩; obtain ⟨N_HO388, hN_HO388⟩ := sepN ho0; replace HO368 := aM (Kd.R_below (by (with_reducible repeat (first | apply Kd.R_alloc | apply Kd.R_drewN | apply Kd.R_drew)); exact (Kd.R_mono (Kd.R_far (p := ⟨gb385, 4, none⟩) (Kd.R_far (p := ⟨gb385, 3, none⟩) (Kd.R_far (p := ⟨gb385, 2, none⟩) (Kd.R_far (p := ⟨gb385, 1, none⟩) (Kd.R_far (p := ⟨gb385, 0, none⟩) (Kd.R_types HO368.out BK385.out (by decide)) (fun _ hk => hk.2) (.int .i64 t378)) (fun _ hk => hk.2) (.int .i64 t379)) (fun _ hk => hk.2) (.int .i64 t380)) (fun _ hk => hk.2) (.int .i64 t381)) (fun _ hk => hk.2) (.slice Ao68 t382.length co68)) (fun _ h_ => h_.1))) hb); replace HO371 := aM (sepO (by (with_reducible repeat (first | apply Kd.S_alloc | apply Kd.S_drewN | apply Kd.S_drew)); exact (Kd.S_mono (Kd.S_far (p := ⟨gb385, 4, none⟩) (Kd.S_far (p := ⟨gb385, 3, none⟩) (Kd.S_far (p := ⟨gb385, 2, none⟩) (Kd.S_far (p := ⟨gb385, 1, none⟩) (Kd.S_far (p := ⟨gb385, 0, none⟩) (Kd.S_types HO371.out BK385.out (by decide)) (fun _ hk => hk.2) (.int .i64 t378)) (fun _ hk => hk.2) (.int .i64 t379)) (fun _ hk => hk.2) (.int .i64 t380)) (fun _ hk => hk.2) (.int .i64 t381)) (fun _ hk => hk.2) (.slice Ao68 t382.length co68)) (fun _ h_ => h_.1))) hN_HO388 hb); replace HO384 := aM (Kd.R_below (by (with_reducible repeat (first | apply Kd.R_alloc | apply Kd.R_drewN | apply Kd.R_drew)); exact (Kd.R_mono (Kd.R_far (p := ⟨gb385, 4, none⟩) (Kd.R_far (p := ⟨gb385, 3, none⟩) (Kd.R_far (p := ⟨gb385, 2, none⟩) (Kd.R_far (p := ⟨gb385, 1, none⟩) (Kd.R_far (p := ⟨gb385, 0, none⟩) (Kd.R_types HO384.out BK385.out (by decide)) (fun _ hk => hk.2) (.int .i64 t378)) (fun _ hk => hk.2) (.int .i64 t379)) (fun _ hk => hk.2) (.int .i64 t380)) (fun _ hk => hk.2) (.int .i64 t381)) (fun _ hk => hk.2) (.slice Ao68 t382.length co68)) (fun _ h_ => h_.1))) hb); have HO388 := aM (Kd.S_lower (Kd.S_new' (sepW ho0 hN_HO388) (Kd.R_lt (by (with_reducible repeat (first | apply Kd.R_alloc | apply Kd.R_drewN | apply Kd.R_drew)); exact (Kd.R_mono (Kd.R_far (p := ⟨gb385, 4, none⟩) (Kd.R_far (p := ⟨gb385, 3, none⟩) (Kd.R_far (p := ⟨gb385, 2, none⟩) (Kd.R_far (p := ⟨gb385, 1, none⟩) (Kd.R_far (p := ⟨gb385, 0, none⟩) (Kd.R_types HO377.out BK385.out (by decide)) (fun _ hk => hk.2) (.int .i64 t378)) (fun _ hk => hk.2) (.int .i64 t379)) (fun _ hk => hk.2) (.int .i64 t380)) (fun _ hk => hk.2) (.int .i64 t381)) (fun _ hk => hk.2) (.slice Ao68 t382.length co68)) (fun _ h_ => h_.1))))) (below_size zH)); replace HO377 := aM (Kd.R_below (by (with_reducible repeat (first | apply Kd.R_alloc | apply Kd.R_drewN | apply Kd.R_drew)); exact (Kd.R_mono (Kd.R_far (p := ⟨gb385, 4, none⟩) (Kd.R_far (p := ⟨gb385, 3, none⟩) (Kd.R_far (p := ⟨gb385, 2, none⟩) (Kd.R_far (p := ⟨gb385, 1, none⟩) (Kd.R_far (p := ⟨gb385, 0, none⟩) (Kd.R_types HO377.out BK385.out (by decide)) (fun _ hk => hk.2) (.int .i64 t378)) (fun _ hk => hk.2) (.int .i64 t379)) (fun _ hk => hk.2) (.int .i64 t380)) (fun _ hk => hk.2) (.int .i64 t381)) (fun _ hk => hk.2) (.slice Ao68 t382.length co68)) (fun _ h_ => h_.1))) hb); replace BK357 := aM (blk_below (g := gb357) (o := .cells #[.int .i64 a0_0, .int .i64 a0_1, .int .i64 a0_2, .int .i64 a0_3, .slice A0_4 l0_4.length c0_4] 55 (0, 0)) (by (with_reducible repeat (first | apply kN | apply kD | apply kA)); refine blk_far ?_ NB357_385.out _; (with_reducible repeat (first | apply kN | apply kD | apply kA)); refine blk_far ?_ NB357_385.out _; (with_reducible repeat (first | apply kN | apply kD | apply kA)); refine blk_far ?_ NB357_385.out _; (with_reducible repeat (first | apply kN | apply kD | apply kA)); refine blk_far ?_ NB357_385.out _; (with_reducible repeat (first | apply kN | apply kD | apply kA)); refine blk_far ?_ NB357_385.out _; (with_reducible repeat (first | apply kN | apply kD | apply kA)); exact BK357.out) hb); replace BK358 := aM (blk_below (g := gb358) (o := .cells #[.slice A1_0 l1_0.length c1_0] 72 (0, 0)) (by (with_reducible repeat (first | apply kN | apply kD | apply kA)); refine blk_far ?_ NB358_385.out _; (with_reducible repeat (first | apply kN | apply kD | apply kA)); refine blk_far ?_ NB358_385.out _; (with_reducible repeat (first | apply kN | apply kD | apply kA)); refine blk_far ?_ NB358_385.out _; (with_reducible repeat (first | apply kN | apply kD | apply kA)); refine blk_far ?_ NB358_385.out _; (with_reducible repeat (first | apply kN | apply kD | apply kA)); refine blk_far ?_ NB358_385.out _; (with_reducible repeat (first | apply kN | apply kD | apply kA)); exact BK358.out) hb); replace BK359 := aM (blk_below (g := gb359) (o := .cells #[.int .i64 a2_0, .int .i64 a2_1, .int .i64 a2_2] 85 (0, 0)) (by (with_reducible repeat (first | apply kN | apply kD | apply kA)); refine blk_far ?_ NB359_385.out _; (with_reducible repeat (first | apply kN | apply kD | apply kA)); refine blk_far ?_ NB359_385.out _; (with_reducible repeat (first | apply kN | apply kD | apply kA)); refine blk_far ?_ NB359_385.out _; (with_reducible repeat (first | apply kN | apply kD | apply kA)); refine blk_far ?_ NB359_385.out _; (with_reducible repeat (first | apply kN | apply kD | apply kA)); refine blk_far ?_ NB359_385.out _; (with_reducible repeat (first | apply kN | apply kD | apply kA)); exact BK359.out) hb); replace BK385 := aM (blk_below (g := gb385) (o := .cells #[.int .i64 t378, .int .i64 t379, .int .i64 t380, .int .i64 t381, .slice Ao68 t382.length co68] 45 (0, 0)) (by (with_reducible repeat (first | apply kN | apply kD | apply kA)); refine blk_put (cs := #[.int .i64 t378, .int .i64 t379, .int .i64 t380, .int .i64 t381, .slice none 0 0]) ?_ 4 _ rfl; (with_reducible repeat (first | apply kN | apply kD | apply kA)); refine blk_put (cs := #[.int .i64 t378, .int .i64 t379, .int .i64 t380, .int .i64 0, .slice none 0 0]) ?_ 3 _ rfl; (with_reducible repeat (first | apply kN | apply kD | apply kA)); refine blk_put (cs := #[.int .i64 t378, .int .i64 t379, .int .i64 0, .int .i64 0, .slice none 0 0]) ?_ 2 _ rfl; (with_reducible repeat (first | apply kN | apply kD | apply kA)); refine blk_put (cs := #[.int .i64 t378, .int .i64 0, .int .i64 0, .int .i64 0, .slice none 0 0]) ?_ 1 _ rfl; (with_reducible repeat (first | apply kN | apply kD | apply kA)); refine blk_put (cs := #[.int .i64 0, .int .i64 0, .int .i64 0, .int .i64 0, .slice none 0 0]) ?_ 0 _ rfl; (with_reducible repeat (first | apply kN | apply kD | apply kA)); exact BK385.out) hb); replace HB := cH HB hb; (try clear hb); (try clear hk); (try clear ho0)) | ((with_reducible refine gate_dst (N := 10) rfl ?_); refine box_event ?hg (N := 10) ?hd (cs := #[.slice none 0 0]) (t := 63) ?hr ?_; (case hd => rfl); (case hg => rfl); (case hr => first | (go_simp; done) | (go_simp; rfl)); intro gb389 hg w71 hbox hb; replace HO368 := aM (Kd.R_below (by (with_reducible repeat (first | apply Kd.R_alloc | apply Kd.R_drewN | apply Kd.R_drew)); exact HO368.out) hb); replace HO371 := aM (Kd.S_below (by (with_reducible repeat (first | apply Kd.S_alloc | apply Kd.S_drewN | apply Kd.S_drew)); exact HO371.out) hb); replace HO377 := aM (Kd.R_below (by (with_reducible repeat (first | apply Kd.R_alloc | apply Kd.R_drewN | apply Kd.R_drew)); exact HO377.out) hb); replace HO384 := aM (Kd.R_below (by (with_reducible repeat (first | apply Kd.R_alloc | apply Kd.R_drewN | apply Kd.R_drew)); exact HO384.out) hb); replace HO388 := aM (Kd.S_below (by (with_reducible repeat (first | apply Kd.S_alloc | apply Kd.S_drewN | apply Kd.S_drew)); exact HO388.out) hb); have BK389 := aM hbox; have GW389 := aM (zG hg : w.heap.size ≤ gb389); have GE389 := aM (zG hg : w.heap.size ≤ gb389); replace HB := cH HB hb; have NB357_389 := aM ((zL hg BK357)); have NB389_357 := aM ((zM hg BK357)); replace BK357 := cB BK357 hb; have NB358_389 := aM ((zL hg BK358)); have NB389_358 := aM ((zM hg BK358)); replace BK358 := cB BK358 hb; have NB359_389 := aM ((zL hg BK359)); have NB389_359 := aM ((zM hg BK359)); replace BK359 := cB BK359 hb; have NB385_389 := aM ((zL hg BK385)); have NB389_385 := aM ((zM hg BK385)); replace BK385 := cB BK385 hb; clear hb hbox hg; obtain ⟨Ao72, co72, eo72⟩ := Kd.S_slice HO388.out; subst eo72; have hnb73 := NB389_357.out; have hnc73 := NB357_389.out; have hnb74 := NB389_358.out; have hnc74 := NB358_389.out; have hnb75 := NB389_359.out; have hnc75 := NB359_389.out; have hnb76 := NB389_385.out; have hnc76 := NB385_389.out; have hcz77_0 := kk1 BK389; have hfz77_0 := kg1 BK389))
      have n0_ : Aside0 (Kd.R k42 42 (w71.setCell ⟨gb389, 0, none⟩ (.slice Ao72 t386.length co72)) w.heap.size (fun k_ => some k_ ≠ (.slice Ao68 t382.length co68 : Value).ownBlock) (.slice Ao58 t366.length co58) t366) := ⟨by (with_reducible repeat (first | apply Kd.R_alloc | apply Kd.R_drewN | apply Kd.R_drew)); exact Kd.R_mono (Kd.R_far (p := ⟨gb389, 0, none⟩) (Kd.R_types HO368.out BK389.out (by decide)) (fun _ hk => hk.2) (.slice Ao72 t386.length co72)) (fun _ hk => by first | exact hk.1.2 | simp only [ne_eq, hk, not_false_eq_true, and_self])⟩
      have n1_ : Aside0 (Kd.S (sliceS 22 (Kd.slice 3 (Kd.int .i64))) 49 (w71.setCell ⟨gb389, 0, none⟩ (.slice Ao72 t386.length co72)) w.heap.size (fun k_ => some k_ ≠ (v376 : Value).ownBlock ∧ k_ < N_HO388) (.slice Ao59 t369.length co59) t369) := ⟨by (with_reducible repeat (first | apply Kd.S_alloc | apply Kd.S_drewN | apply Kd.S_drew)); exact Kd.S_mono (Kd.S_far (p := ⟨gb389, 0, none⟩) (Kd.S_types HO371.out BK389.out (by decide)) (fun _ hk => hk.2) (.slice Ao72 t386.length co72)) (fun _ hk => by simp only [ne_eq, hk, not_false_eq_true, and_self])⟩
      have n2_ : Aside0 (Kd.R (Kd.int .i64) 3 (w71.setCell ⟨gb389, 0, none⟩ (.slice Ao72 t386.length co72)) w.heap.size (fun _ => True) v376 t375) := ⟨by (with_reducible repeat (first | apply Kd.R_alloc | apply Kd.R_drewN | apply Kd.R_drew)); exact Kd.R_mono (Kd.R_far (p := ⟨gb389, 0, none⟩) (Kd.R_types HO377.out BK389.out (by decide)) (fun _ hk => hk.2) (.slice Ao72 t386.length co72)) (fun _ hk => trivial)⟩
      have n3_ : Aside0 (Kd.R k42 42 (w71.setCell ⟨gb389, 0, none⟩ (.slice Ao72 t386.length co72)) w.heap.size (fun k_ => some k_ ≠ (.slice Ao58 t366.length co58 : Value).ownBlock) (.slice Ao68 t382.length co68) t382) := ⟨by (with_reducible repeat (first | apply Kd.R_alloc | apply Kd.R_drewN | apply Kd.R_drew)); exact Kd.R_mono (Kd.R_far (p := ⟨gb389, 0, none⟩) (Kd.R_types HO384.out BK389.out (by decide)) (fun _ hk => hk.2) (.slice Ao72 t386.length co72)) (fun _ hk => by first | exact hk.1.2 | simp only [ne_eq, hk, not_false_eq_true, and_self])⟩
      have n4_ : Aside0 (Kd.S (sliceS 22 (Kd.slice 3 (Kd.int .i64))) 49 (w71.setCell ⟨gb389, 0, none⟩ (.slice Ao72 t386.length co72)) w.heap.size (fun k_ => N_HO388 ≤ k_ ∧ some k_ ≠ (v376 : Value).ownBlock) (.slice Ao72 t386.length co72) t386) := ⟨by (with_reducible repeat (first | apply Kd.S_alloc | apply Kd.S_drewN | apply Kd.S_drew)); exact Kd.S_mono (Kd.S_far (p := ⟨gb389, 0, none⟩) (Kd.S_types HO388.out BK389.out (by decide)) (fun _ hk => hk.2) (.slice Ao72 t386.length co72)) (fun _ hk => by simp only [ne_eq, hk, not_false_eq_true, and_self])⟩
      have n5_ : Aside0 ((w71.setCell ⟨gb389, 0, none⟩ (.slice Ao72 t386.length co72)).heap[gb357]? = some (.cells #[.int .i64 a0_0, .int .i64 a0_1, .int .i64 a0_2, .int .i64 a0_3, .slice A0_4 l0_4.length c0_4] 55 (0, 0))) := ⟨by (with_reducible repeat (first | apply kN | apply kD | apply kA)); refine blk_far ?_ NB357_389.out _; (with_reducible repeat (first | apply kN | apply kD | apply kA)); exact BK357.out⟩
      have n6_ : Aside0 ((w71.setCell ⟨gb389, 0, none⟩ (.slice Ao72 t386.length co72)).heap[gb358]? = some (.cells #[.slice A1_0 l1_0.length c1_0] 72 (0, 0))) := ⟨by (with_reducible repeat (first | apply kN | apply kD | apply kA)); refine blk_far ?_ NB358_389.out _; (with_reducible repeat (first | apply kN | apply kD | apply kA)); exact BK358.out⟩
      have n7_ : Aside0 ((w71.setCell ⟨gb389, 0, none⟩ (.slice Ao72 t386.length co72)).heap[gb359]? = some (.cells #[.int .i64 a2_0, .int .i64 a2_1, .int .i64 a2_2] 85 (0, 0))) := ⟨by (with_reducible repeat (first | apply kN | apply kD | apply kA)); refine blk_far ?_ NB359_389.out _; (with_reducible repeat (first | apply kN | apply kD | apply kA)); exact BK359.out⟩
      have n8_ : Aside0 ((w71.setCell ⟨gb389, 0, none⟩ (.slice Ao72 t386.length co72)).heap[gb385]? = some (.cells #[.int .i64 t378, .int .i64 t379, .int .i64 t380, .int .i64 t381, .slice Ao68 t382.length co68] 45 (0, 0))) := ⟨by (with_reducible repeat (first | apply kN | apply kD | apply kA)); refine blk_far ?_ NB385_389.out _; (with_reducible repeat (first | apply kN | apply kD | apply kA)); exact BK385.out⟩
      have n9_ : Aside0 ((w71.setCell ⟨gb389, 0, none⟩ (.slice Ao72 t386.length co72)).heap[gb389]? = some (.cells #[.slice Ao72 t386.length co72] 63 (0, 0))) := ⟨by (with_reducible repeat (first | apply kN | apply kD | apply kA)); refine blk_put (cs := #[.slice none 0 0]) ?_ 0 _ rfl; (with_reducible repeat (first | apply kN | apply kD | apply kA)); exact BK389.out⟩
      have n10_ : Aside0 (Below w.heap.size w (w71.setCell ⟨gb389, 0, none⟩ (.slice Ao72 t386.length co72))) := ⟨zH⟩
      (try clear HO368)
      (try clear HO371)
      (try clear HO377)
      (try clear HO384)
      (try clear HO388)
      (try clear BK357)
      (try clear BK358)
      (try clear BK359)
      (try clear BK385)
      (try clear BK389)
      (try clear HB)
      generalize (w71.setCell ⟨gb389, 0, none⟩ (.slice Ao72 t386.length co72)) = w78 at n0_ n1_ n2_ n3_ n4_ n5_ n6_ n7_ n8_ n9_ n10_ ⊢
      have HO368 := n0_
      have HO371 := n1_
      have HO377 := n2_
      have HO384 := n3_
      have HO388 := n4_
      have BK357 := n5_
      have BK358 := n6_
      have BK359 := n7_
      have BK385 := n8_
      have BK389 := n9_
      have HB := n10_
      clear n0_ n1_ n2_ n3_ n4_ n5_ n6_ n7_ n8_ n9_ n10_
      have n0_ := aM (Kd.R_drew HO368.out)
      have n1_ := aM (Kd.S_drew HO371.out)
      have n2_ := aM (Kd.R_drew HO377.out)
      have n3_ := aM (Kd.R_drew HO384.out)
      have n4_ := aM (Kd.S_drew HO388.out)
      have n5_ := aM (kD BK357.out)
      have n6_ := aM (kD BK358.out)
      have n7_ := aM (kD BK359.out)
      have n8_ := aM (kD BK385.out)
      have n9_ := aM (kD BK389.out)
      have n10_ := aM (b1 HB.out)
      clear HO368
      clear HO371
      clear HO377
      clear HO384
      clear HO388
      clear BK357
      clear BK358
      clear BK359
      clear BK385
      clear BK389
      clear HB
      have HO368 := n0_
      have HO371 := n1_
      have HO377 := n2_
      have HO384 := n3_
      have HO388 := n4_
      have BK357 := n5_
      have BK358 := n6_
      have BK359 := n7_
      have BK385 := n8_
      have BK389 := n9_
      have HB := n10_
      clear n0_ n1_ n2_ n3_ n4_ n5_ n6_ n7_ n8_ n9_ n10_
      refine start_ (n := 6) (S := fun w' => w'.cell? ⟨gb385, 0, none⟩ = some (.int .i64 t378) ∧ w'.cell? ⟨gb385, 1, none⟩ = some (.int .i64 t379) ∧ w'.cell? ⟨gb385, 2, none⟩ = some (.int .i64 t380) ∧ w'.cell? ⟨gb385, 3, none⟩ = some (.int .i64 t381) ∧ w'.cell? ⟨gb385, 4, none⟩ = some (.slice Ao68 t382.length co68) ∧ w'.cell? ⟨gb389, 0, none⟩ = some (.slice Ao72 t386.length co72) ∧ w'.cell? ⟨gb359, 0, none⟩ = some (.int .i64 a2_0) ∧ w'.cell? ⟨gb359, 1, none⟩ = some (.int .i64 a2_1) ∧ w'.cell? ⟨gb359, 2, none⟩ = some (.int .i64 a2_2)) (ds := []) #[false, false, false, false, false, false] (by kernel_rfl) rfl rfl ⟨(kC BK385.out 0).trans rfl, (kC BK385.out 1).trans rfl, (kC BK385.out 2).trans rfl, (kC BK385.out 3).trans rfl, (kC BK385.out 4).trans rfl, (kC BK389.out 0).trans rfl, (kC BK359.out 0).trans rfl, (kC BK359.out 1).trans rfl, (kC BK359.out 2).trans rfl⟩ (fun hHeld => ?_)
      generalize w78.drew = w79 at HO368 HO371 HO377 HO384 HO388 BK357 BK358 BK359 BK385 BK389 HB hHeld ⊢
      refine take_ (i := 0) (N := some 37) (v := ?_) (a' := ?_) #[true, false, false, false, false, false] rfl rfl (by kernel_rfl) (fun _ _ _ h => h) (Or.inl ⟨by rfl, ?_⟩) hHeld ?_ ?_
      rotate_left
      ·rintro w' ⟨s0, s1, s2, s3, s4, s5, s6, s7, s8⟩
       go_simp
       with_reducible rfl
      rotate_left
      ·simp only [Act.put, List.setIfInBounds_toArray, List.set_cons_zero, List.set_cons_succ, i64_w, i32_w]
       rfl
      refine take_ (i := 1) (N := some 38) (v := ?_) (a' := ?_) #[true, true, false, false, false, false] rfl rfl (by kernel_rfl) (fun _ _ _ h => h) (Or.inl ⟨by rfl, ?_⟩) hHeld ?_ ?_
      rotate_left
      ·rintro w' ⟨s0, s1, s2, s3, s4, s5, s6, s7, s8⟩
       go_simp
       with_reducible rfl
      rotate_left
      ·simp only [Act.put, List.setIfInBounds_toArray, List.set_cons_zero, List.set_cons_succ, i64_w, i32_w]
       rfl
      refine take_ (i := 2) (N := some 39) (v := ?_) (a' := ?_) #[true, true, true, false, false, false] rfl rfl (by kernel_rfl) (fun _ _ _ h => h) (Or.inl ⟨by rfl, ?_⟩) hHeld ?_ ?_
      rotate_left
      ·rintro w' ⟨s0, s1, s2, s3, s4, s5, s6, s7, s8⟩
       go_simp
       with_reducible rfl
      rotate_left
      ·simp only [Act.put, List.setIfInBounds_toArray, List.set_cons_zero, List.set_cons_succ, i64_w, i32_w]
       rfl
      refine one_ (i := 3) (N := some 40) #[true, true, true, true, false, false] rfl rfl (by kernel_rfl) (by decide) (fun K hK => ?_)
      refine zGo Try.func67 #[.agg #[.int .i64 a2_0, .int .i64 a2_1, .int .i64 a2_2]] ?_
      with_reducible refine (laws_toPlace.calls a2_0 a2_1 a2_2 t390 t391 t392 _ A31.out).mono ?_
      rintro e w80 ⟨rfl, hb⟩
      refine ⟨_, rfl, ?_⟩
      have n0_ := aM (Kd.R_below (by (with_reducible repeat (first | apply Kd.R_alloc | apply Kd.R_drewN | apply Kd.R_drew)); exact HO368.out) hb)
      have n1_ := aM (Kd.S_below (by (with_reducible repeat (first | apply Kd.S_alloc | apply Kd.S_drewN | apply Kd.S_drew)); exact HO371.out) hb)
      have n2_ := aM (Kd.R_below (by (with_reducible repeat (first | apply Kd.R_alloc | apply Kd.R_drewN | apply Kd.R_drew)); exact HO377.out) hb)
      have n3_ := aM (Kd.R_below (by (with_reducible repeat (first | apply Kd.R_alloc | apply Kd.R_drewN | apply Kd.R_drew)); exact HO384.out) hb)
      have n4_ := aM (Kd.S_below (by (with_reducible repeat (first | apply Kd.S_alloc | apply Kd.S_drewN | apply Kd.S_drew)); exact HO388.out) hb)
      have n5_ := cB BK357 hb
      have n6_ := cB BK358 hb
      have n7_ := cB BK359 hb
      have n8_ := cB BK385 hb
      have n9_ := cB BK389 hb
      have n10_ := cH HB hb
      clear HO368
      clear HO371
      clear HO377
      clear HO384
      clear HO388
      clear BK357
      clear BK358
      clear BK359
      clear BK385
      clear BK389
      clear HB
      have HO368 := n0_
      have HO371 := n1_
      have HO377 := n2_
      have HO384 := n3_
      have HO388 := n4_
      have BK357 := n5_
      have BK358 := n6_
      have BK359 := n7_
      have BK385 := n8_
      have BK389 := n9_
      have HB := n10_
      clear n0_ n1_ n2_ n3_ n4_ n5_ n6_ n7_ n8_ n9_ n10_
      (try clear hb)
      (try clear hb2)
      (try clear hk)
      (try clear hi)
      refine hK.out _ _ ⟨(kC BK385.out 0).trans rfl, (kC BK385.out 1).trans rfl, (kC BK385.out 2).trans rfl, (kC BK385.out 3).trans rfl, (kC BK385.out 4).trans rfl, (kC BK389.out 0).trans rfl, (kC BK359.out 0).trans rfl, (kC BK359.out 1).trans rfl, (kC BK359.out 2).trans rfl⟩ (fun hHeld => ?_)
      clear hK K
      refine zNo (some 40) ?_
      refine one_ (i := 4) (N := some 41) #[true, true, true, true, true, false] rfl rfl (by kernel_rfl) (by decide) (fun K hK => ?_)
      refine zGo Try.func68 #[.agg #[.int .i64 t378, .int .i64 t379, .int .i64 t380, .int .i64 t381, .slice Ao68 t382.length co68], .agg #[.slice Ao72 t386.length co72], .agg #[.int .i64 t390, .int .i64 t391, .int .i64 t392]] ?_
      with_reducible refine (impl_BlockAt.calls k t378 t379 t380 t381 _ _ t382 _ _ t386 t390 t391 t392 t393 _ ?side1 ?side2 ?side3 ?side4 A32.out).mono ?_
      (case side1 => exact zC (Kd.R_reads' HO384.out).2.2)
      (case side2 => exact (Kd.R_reads' HO384.out).2.1)
      (case side3 => exact zC (Kd.S_reads' HO388.out).2.2)
      (case side4 => exact (Kd.S_reads' HO388.out).2.1)
      rintro e w81 ⟨v394, rfl, ho0, hb⟩
      refine ⟨_, rfl, ?_⟩
      have n0_ := aM (Kd.R_below (by (with_reducible repeat (first | apply Kd.R_alloc | apply Kd.R_drewN | apply Kd.R_drew)); exact HO368.out) hb)
      have n1_ := aM (Kd.S_elder' (by (with_reducible repeat (first | apply Kd.S_alloc | apply Kd.S_drewN | apply Kd.S_drew)); exact HO371.out) (Kd.R_base ho0) hb)
      have n2_ := aM (Kd.R_elder' (by (with_reducible repeat (first | apply Kd.R_alloc | apply Kd.R_drewN | apply Kd.R_drew)); exact HO377.out) (Kd.R_base ho0) hb)
      have n3_ := aM (Kd.R_below (by (with_reducible repeat (first | apply Kd.R_alloc | apply Kd.R_drewN | apply Kd.R_drew)); exact HO384.out) hb)
      have n4_ := aM (Kd.S_elder' (by (with_reducible repeat (first | apply Kd.S_alloc | apply Kd.S_drewN | apply Kd.S_drew)); exact HO388.out) (Kd.R_base ho0) hb)
      have n5_ := aM (Kd.R_lower (Kd.R_new' ho0 (Kd.R_lt (by (with_reducible repeat (first | apply Kd.R_alloc | apply Kd.R_drewN | apply Kd.R_drew)); exact HO377.out))) (below_size zH))
      have n6_ := cB BK357 hb
      have n7_ := cB BK358 hb
      have n8_ := cB BK359 hb
      have n9_ := cB BK385 hb
      have n10_ := cB BK389 hb
      have n11_ := cH HB hb
      clear HO368
      clear HO371
      clear HO377
      clear HO384
      clear HO388
      clear BK357
      clear BK358
      clear BK359
      clear BK385
      clear BK389
      clear HB
      have HO368 := n0_
      have HO371 := n1_
      have HO377 := n2_
      have HO384 := n3_
      have HO388 := n4_
      have HO395 := n5_
      have BK357 := n6_
      have BK358 := n7_
      have BK359 := n8_
      have BK385 := n9_
      have BK389 := n10_
      have HB := n11_
      clear n0_ n1_ n2_ n3_ n4_ n5_ n6_ n7_ n8_ n9_ n10_ n11_
      (try clear hb)
      (try clear hb2)
      (try clear hk)
      (try clear hi)
      (try clear ho0)
      refine hK.out _ _ ⟨(kC BK385.out 0).trans rfl, (kC BK385.out 1).trans rfl, (kC BK385.out 2).trans rfl, (kC BK385.out 3).trans rfl, (kC BK385.out 4).trans rfl, (kC BK389.out 0).trans rfl, (kC BK359.out 0).trans rfl, (kC BK359.out 1).trans rfl, (kC BK359.out 2).trans rfl⟩ (fun hHeld => ?_)
      clear hK K
      refine zNo (some 41) ?_
      refine pure_ (i := 5) (N := some 11) (v := ?_) (a' := ?_) #[true, true, true, true, true, true] rfl rfl (by kernel_rfl) (fun _ _ _ h => h) (Or.inl ⟨by rfl, ?_⟩) ?_ ?_
      rotate_left
      ·intro w'
       go_simp
       with_reducible rfl
      rotate_left
      ·simp only [Act.put, List.setIfInBounds_toArray, List.set_cons_zero, List.set_cons_succ, i64_w, i32_w]
       rfl
      refine done_ (by kernel_rfl) ?_
      obtain ⟨Ao82, co82, eo82⟩ := Kd.R_slice HO395.out
      subst eo82
      obtain ⟨Ao83, co83, eo83⟩ := Kd.R_slice HO377.out
      subst eo83
      try go_wp2_with (first | ((with_reducible refine gate_callee (f := 20) rfl ?_); refine zGl (some 44) Try.func20 #[.slice Ao82 t393.length co82, .slice Ao83 t375.length co83] ?_; (with_reducible refine (laws_eqIntS.calls k _ _ t393 _ _ t375 true _ ?side1 ?side2 ?side3 ?side4 A33.out).mono ?_); (case side1 => exact zC (Kd.R_reads' HO395.out).2.2); (case side2 => exact (Kd.R_reads' HO395.out).2.1); (case side3 => exact zC (Kd.R_reads' HO377.out).2.2); (case side4 => exact (Kd.R_reads' HO377.out).2.1); rintro e w' ⟨rfl, ⟨nd, rfl⟩⟩; refine ⟨_, rfl, ?_⟩))
      (try (rw [drewN_self w81]; generalize hq_ : World.drewN w81 _ = w81; have n0_ : Aside0 (Kd.R k42 42 w81 w.heap.size (fun k_ => some k_ ≠ (.slice Ao68 t382.length co68 : Value).ownBlock) (.slice Ao58 t366.length co58) t366) := ⟨by rw [← hq_]; exact (by (with_reducible repeat (first | apply Kd.R_alloc | apply Kd.R_drewN | apply Kd.R_drew)); exact HO368.out)⟩; have n1_ : Aside0 (Kd.S (sliceS 22 (Kd.slice 3 (Kd.int .i64))) 49 w81 w.heap.size (fun k_ => some k_ ≠ (.slice Ao83 t375.length co83 : Value).ownBlock ∧ k_ < N_HO388 ∧ some k_ ≠ (.slice Ao82 t393.length co82 : Value).ownBlock) (.slice Ao59 t369.length co59) t369) := ⟨by rw [← hq_]; exact (by (with_reducible repeat (first | apply Kd.S_alloc | apply Kd.S_drewN | apply Kd.S_drew)); exact Kd.S_mono HO371.out (fun _ hk => by simp only [ne_eq, hk, not_false_eq_true, and_self]))⟩; have n2_ : Aside0 (Kd.R (Kd.int .i64) 3 w81 w.heap.size (fun k_ => some k_ ≠ (.slice Ao82 t393.length co82 : Value).ownBlock) (.slice Ao83 t375.length co83) t375) := ⟨by rw [← hq_]; exact (by (with_reducible repeat (first | apply Kd.R_alloc | apply Kd.R_drewN | apply Kd.R_drew)); exact Kd.R_mono HO377.out (fun _ hk => by first | exact hk.2 | simp only [ne_eq, hk, not_false_eq_true, and_self]))⟩; have n3_ : Aside0 (Kd.R k42 42 w81 w.heap.size (fun k_ => some k_ ≠ (.slice Ao58 t366.length co58 : Value).ownBlock) (.slice Ao68 t382.length co68) t382) := ⟨by rw [← hq_]; exact (by (with_reducible repeat (first | apply Kd.R_alloc | apply Kd.R_drewN | apply Kd.R_drew)); exact HO384.out)⟩; have n4_ : Aside0 (Kd.S (sliceS 22 (Kd.slice 3 (Kd.int .i64))) 49 w81 w.heap.size (fun k_ => N_HO388 ≤ k_ ∧ some k_ ≠ (.slice Ao83 t375.length co83 : Value).ownBlock ∧ some k_ ≠ (.slice Ao82 t393.length co82 : Value).ownBlock) (.slice Ao72 t386.length co72) t386) := ⟨by rw [← hq_]; exact (by (with_reducible repeat (first | apply Kd.S_alloc | apply Kd.S_drewN | apply Kd.S_drew)); exact Kd.S_mono HO388.out (fun _ hk => by simp only [ne_eq, hk, not_false_eq_true, and_self]))⟩; have n5_ : Aside0 (Kd.R (Kd.int .i64) 3 w81 w.heap.size (fun k_ => some k_ ≠ (.slice Ao83 t375.length co83 : Value).ownBlock) (.slice Ao82 t393.length co82) t393) := ⟨by rw [← hq_]; exact (by (with_reducible repeat (first | apply Kd.R_alloc | apply Kd.R_drewN | apply Kd.R_drew)); exact Kd.R_mono HO395.out (fun _ hk => by first | exact hk.2 | simp only [ne_eq, hk, not_false_eq_true, and_self]))⟩; have n6_ : Aside0 (w81.heap[gb357]? = some (.cells #[.int .i64 a0_0, .int .i64 a0_1, .int .i64 a0_2, .int .i64 a0_3, .slice A0_4 l0_4.length c0_4] 55 (0, 0))) := ⟨by rw [← hq_]; exact (zK BK357)⟩; have n7_ : Aside0 (w81.heap[gb358]? = some (.cells #[.slice A1_0 l1_0.length c1_0] 72 (0, 0))) := ⟨by rw [← hq_]; exact (zK BK358)⟩; have n8_ : Aside0 (w81.heap[gb359]? = some (.cells #[.int .i64 a2_0, .int .i64 a2_1, .int .i64 a2_2] 85 (0, 0))) := ⟨by rw [← hq_]; exact (zK BK359)⟩; have n9_ : Aside0 (w81.heap[gb385]? = some (.cells #[.int .i64 t378, .int .i64 t379, .int .i64 t380, .int .i64 t381, .slice Ao68 t382.length co68] 45 (0, 0))) := ⟨by rw [← hq_]; exact (zK BK385)⟩; have n10_ : Aside0 (w81.heap[gb389]? = some (.cells #[.slice Ao72 t386.length co72] 63 (0, 0))) := ⟨by rw [← hq_]; exact (zK BK389)⟩; have n11_ : Aside0 (Below w.heap.size w w81) := ⟨by rw [← hq_]; exact zH⟩; clear HO368 HO371 HO377 HO384 HO388 HO395 BK357 BK358 BK359 BK385 BK389 HB hq_; have HO368 := n0_; have HO371 := n1_; have HO377 := n2_; have HO384 := n3_; have HO388 := n4_; have HO395 := n5_; have BK357 := n6_; have BK358 := n7_; have BK359 := n8_; have BK385 := n9_; have BK389 := n10_; have HB := n11_; clear n0_ n1_ n2_ n3_ n4_ n5_ n6_ n7_ n8_ n9_ n10_ n11_))
      have n0_ := aM (Kd.R_drew HO368.out)
      have n1_ := aM (Kd.S_drew HO371.out)
      have n2_ := aM (Kd.R_drew HO377.out)
      have n3_ := aM (Kd.R_drew HO384.out)
      have n4_ := aM (Kd.S_drew HO388.out)
      have n5_ := aM (Kd.R_drew HO395.out)
      have n6_ := aM (kD BK357.out)
      have n7_ := aM (kD BK358.out)
      have n8_ := aM (kD BK359.out)
      have n9_ := aM (kD BK385.out)
      have n10_ := aM (kD BK389.out)
      have n11_ := aM (b1 HB.out)
      clear HO368
      clear HO371
      clear HO377
      clear HO384
      clear HO388
      clear HO395
      clear BK357
      clear BK358
      clear BK359
      clear BK385
      clear BK389
      clear HB
      have HO368 := n0_
      have HO371 := n1_
      have HO377 := n2_
      have HO384 := n3_
      have HO388 := n4_
      have HO395 := n5_
      have BK357 := n6_
      have BK358 := n7_
      have BK359 := n8_
      have BK385 := n9_
      have BK389 := n10_
      have HB := n11_
      clear n0_ n1_ n2_ n3_ n4_ n5_ n6_ n7_ n8_ n9_ n10_ n11_
      refine start_ (n := 5) (S := fun w' => w'.cell? ⟨gb385, 0, none⟩ = some (.int .i64 t378) ∧ w'.cell? ⟨gb385, 1, none⟩ = some (.int .i64 t379) ∧ w'.cell? ⟨gb385, 2, none⟩ = some (.int .i64 t380) ∧ w'.cell? ⟨gb385, 3, none⟩ = some (.int .i64 t381) ∧ w'.cell? ⟨gb385, 4, none⟩ = some (.slice Ao68 t382.length co68) ∧ w'.cell? ⟨gb357, 0, none⟩ = some (.int .i64 a0_0) ∧ w'.cell? ⟨gb357, 1, none⟩ = some (.int .i64 a0_1) ∧ w'.cell? ⟨gb357, 2, none⟩ = some (.int .i64 a0_2) ∧ w'.cell? ⟨gb357, 3, none⟩ = some (.int .i64 a0_3) ∧ w'.cell? ⟨gb357, 4, none⟩ = some (.slice A0_4 l0_4.length c0_4)) (ds := []) #[false, false, false, false, false] (by kernel_rfl) rfl rfl ⟨(kC BK385.out 0).trans rfl, (kC BK385.out 1).trans rfl, (kC BK385.out 2).trans rfl, (kC BK385.out 3).trans rfl, (kC BK385.out 4).trans rfl, (kC BK357.out 0).trans rfl, (kC BK357.out 1).trans rfl, (kC BK357.out 2).trans rfl, (kC BK357.out 3).trans rfl, (kC BK357.out 4).trans rfl⟩ (fun hHeld => ?_)
      generalize w81.drew = w84 at HO368 HO371 HO377 HO384 HO388 HO395 BK357 BK358 BK359 BK385 BK389 HB hHeld ⊢
      refine take_ (i := 0) (N := some 46) (v := ?_) (a' := ?_) #[true, false, false, false, false] rfl rfl (by kernel_rfl) (fun _ _ _ h => h) (Or.inl ⟨by rfl, ?_⟩) hHeld ?_ ?_
      rotate_left
      ·rintro w' ⟨s0, s1, s2, s3, s4, s5, s6, s7, s8, s9⟩
       go_simp
       with_reducible rfl
      rotate_left
      ·simp only [Act.put, List.setIfInBounds_toArray, List.set_cons_zero, List.set_cons_succ, i64_w, i32_w]
       rfl
      refine take_ (i := 1) (N := some 47) (v := ?_) (a' := ?_) #[true, true, false, false, false] rfl rfl (by kernel_rfl) (fun _ _ _ h => h) (Or.inl ⟨by rfl, ?_⟩) hHeld ?_ ?_
      rotate_left
      ·rintro w' ⟨s0, s1, s2, s3, s4, s5, s6, s7, s8, s9⟩
       go_simp
       with_reducible rfl
      rotate_left
      ·simp only [Act.put, List.setIfInBounds_toArray, List.set_cons_zero, List.set_cons_succ, i64_w, i32_w]
       rfl
      refine one_ (i := 2) (N := some 48) #[true, true, true, false, false] rfl rfl (by kernel_rfl) (by decide) (fun K hK => ?_)
      refine zGo Try.func41 #[.agg #[.int .i64 a0_0, .int .i64 a0_1, .int .i64 a0_2, .int .i64 a0_3, .slice A0_4 l0_4.length c0_4]] ?_
      with_reducible refine (laws_toFrame.calls k a0_0 a0_1 a0_2 a0_3 _ _ l0_4 t397 t398 t399 t400 t401 _ ?side1 ?side2 A35.out).mono ?_
      (case side1 => exact zC (Kd.C_below HR0_4.out HB.out))
      (case side2 => exact HC0_4.out)
      rintro e w85 ⟨v402, rfl, ho0, hb⟩
      refine ⟨_, rfl, ?_⟩
      have n0_ := aM (Kd.R_elder' (by (with_reducible repeat (first | apply Kd.R_alloc | apply Kd.R_drewN | apply Kd.R_drew)); exact HO368.out) (Kd.R_base ho0) hb)
      have n1_ := aM (Kd.S_below (by (with_reducible repeat (first | apply Kd.S_alloc | apply Kd.S_drewN | apply Kd.S_drew)); exact HO371.out) hb)
      have n2_ := aM (Kd.R_below (by (with_reducible repeat (first | apply Kd.R_alloc | apply Kd.R_drewN | apply Kd.R_drew)); exact HO377.out) hb)
      have n3_ := aM (Kd.R_elder' (by (with_reducible repeat (first | apply Kd.R_alloc | apply Kd.R_drewN | apply Kd.R_drew)); exact HO384.out) (Kd.R_base ho0) hb)
      have n4_ := aM (Kd.S_below (by (with_reducible repeat (first | apply Kd.S_alloc | apply Kd.S_drewN | apply Kd.S_drew)); exact HO388.out) hb)
      have n5_ := aM (Kd.R_below (by (with_reducible repeat (first | apply Kd.R_alloc | apply Kd.R_drewN | apply Kd.R_drew)); exact HO395.out) hb)
      have n6_ := aM (Kd.R_lower (Kd.R_new' (Kd.R_new' ho0 (Kd.R_lt (by (with_reducible repeat (first | apply Kd.R_alloc | apply Kd.R_drewN | apply Kd.R_drew)); exact HO368.out))) (Kd.R_lt (by (with_reducible repeat (first | apply Kd.R_alloc | apply Kd.R_drewN | apply Kd.R_drew)); exact HO384.out))) (below_size zH))
      have n7_ := cB BK357 hb
      have n8_ := cB BK358 hb
      have n9_ := cB BK359 hb
      have n10_ := cB BK385 hb
      have n11_ := cB BK389 hb
      have n12_ := cH HB hb
      clear HO368
      clear HO371
      clear HO377
      clear HO384
      clear HO388
      clear HO395
      clear BK357
      clear BK358
      clear BK359
      clear BK385
      clear BK389
      clear HB
      have HO368 := n0_
      have HO371 := n1_
      have HO377 := n2_
      have HO384 := n3_
      have HO388 := n4_
      have HO395 := n5_
      have HO403 := n6_
      have BK357 := n7_
      have BK358 := n8_
      have BK359 := n9_
      have BK385 := n10_
      have BK389 := n11_
      have HB := n12_
      clear n0_ n1_ n2_ n3_ n4_ n5_ n6_ n7_ n8_ n9_ n10_ n11_ n12_
      (try clear hb)
      (try clear hb2)
      (try clear hk)
      (try clear hi)
      (try clear ho0)
      obtain ⟨Ao86, co86, eo86⟩ := Kd.R_slice HO403.out
      (first | subst eo86 | (injection eo86 with f1_ f2_ f3_; have f4_ := f1_.symm; have f5_ := f3_.symm; clear f1_ f2_ f3_; subst f4_; subst f5_))
      refine hK.out _ _ ⟨(kC BK385.out 0).trans rfl, (kC BK385.out 1).trans rfl, (kC BK385.out 2).trans rfl, (kC BK385.out 3).trans rfl, (kC BK385.out 4).trans rfl, (kC BK357.out 0).trans rfl, (kC BK357.out 1).trans rfl, (kC BK357.out 2).trans rfl, (kC BK357.out 3).trans rfl, (kC BK357.out 4).trans rfl⟩ (fun hHeld => ?_)
      clear hK K
      refine zNo (some 48) ?_
      refine one_ (i := 3) (N := some 49) #[true, true, true, true, false] rfl rfl (by kernel_rfl) (by decide) (fun K hK => ?_)
      refine zGo Try.func43 #[.agg #[.int .i64 t378, .int .i64 t379, .int .i64 t380, .int .i64 t381, .slice Ao68 t382.length co68], .agg #[.int .i64 t397, .int .i64 t398, .int .i64 t399, .int .i64 t400, .slice Ao86 t401.length co86]] ?_
      with_reducible refine (laws_eqFrame.calls k t378 t379 t380 t381 _ _ t382 t397 t398 t399 t400 _ _ t401 true _ ?side1 ?side2 ?side3 ?side4 A36.out).mono ?_
      (case side1 => exact zC (Kd.R_reads' HO384.out).2.2)
      (case side2 => exact (Kd.R_reads' HO384.out).2.1)
      (case side3 => exact zC (Kd.R_reads' HO403.out).2.2)
      (case side4 => exact (Kd.R_reads' HO403.out).2.1)
      rintro e w87 ⟨rfl, hb⟩
      refine ⟨_, rfl, ?_⟩
      have n0_ := aM (Kd.R_below (by (with_reducible repeat (first | apply Kd.R_alloc | apply Kd.R_drewN | apply Kd.R_drew)); exact HO368.out) hb)
      have n1_ := aM (Kd.S_below (by (with_reducible repeat (first | apply Kd.S_alloc | apply Kd.S_drewN | apply Kd.S_drew)); exact HO371.out) hb)
      have n2_ := aM (Kd.R_below (by (with_reducible repeat (first | apply Kd.R_alloc | apply Kd.R_drewN | apply Kd.R_drew)); exact HO377.out) hb)
      have n3_ := aM (Kd.R_below (by (with_reducible repeat (first | apply Kd.R_alloc | apply Kd.R_drewN | apply Kd.R_drew)); exact HO384.out) hb)
      have n4_ := aM (Kd.S_below (by (with_reducible repeat (first | apply Kd.S_alloc | apply Kd.S_drewN | apply Kd.S_drew)); exact HO388.out) hb)
      have n5_ := aM (Kd.R_below (by (with_reducible repeat (first | apply Kd.R_alloc | apply Kd.R_drewN | apply Kd.R_drew)); exact HO395.out) hb)
      have n6_ := aM (Kd.R_below (by (with_reducible repeat (first | apply Kd.R_alloc | apply Kd.R_drewN | apply Kd.R_drew)); exact HO403.out) hb)
      have n7_ := cB BK357 hb
      have n8_ := cB BK358 hb
      have n9_ := cB BK359 hb
      have n10_ := cB BK385 hb
      have n11_ := cB BK389 hb
      have n12_ := cH HB hb
      clear HO368
      clear HO371
      clear HO377
      clear HO384
      clear HO388
      clear HO395
      clear HO403
      clear BK357
      clear BK358
      clear BK359
      clear BK385
      clear BK389
      clear HB
      have HO368 := n0_
      have HO371 := n1_
      have HO377 := n2_
      have HO384 := n3_
      have HO388 := n4_
      have HO395 := n5_
      have HO403 := n6_
      have BK357 := n7_
      have BK358 := n8_
      have BK359 := n9_
      have BK385 := n10_
      have BK389 := n11_
      have HB := n12_
      clear n0_ n1_ n2_ n3_ n4_ n5_ n6_ n7_ n8_ n9_ n10_ n11_ n12_
      (try clear hb)
      (try clear hb2)
      (try clear hk)
      (try clear hi)
      refine hK.out _ _ ⟨(kC BK385.out 0).trans rfl, (kC BK385.out 1).trans rfl, (kC BK385.out 2).trans rfl, (kC BK385.out 3).trans rfl, (kC BK385.out 4).trans rfl, (kC BK357.out 0).trans rfl, (kC BK357.out 1).trans rfl, (kC BK357.out 2).trans rfl, (kC BK357.out 3).trans rfl, (kC BK357.out 4).trans rfl⟩ (fun hHeld => ?_)
      clear hK K
      refine zNo (some 49) ?_
      refine pure_ (i := 4) (N := some 50) (v := ?_) (a' := ?_) #[true, true, true, true, true] rfl rfl (by kernel_rfl) (fun _ _ _ h => h) (Or.inl ⟨by rfl, ?_⟩) ?_ ?_
      rotate_left
      ·intro w'
       go_simp
       with_reducible rfl
      rotate_left
      ·simp only [Act.put, List.setIfInBounds_toArray, List.set_cons_zero, List.set_cons_succ, i64_w, i32_w]
       rfl
      refine done_ (by kernel_rfl) ?_
      try go_wp2
      have n0_ := aM (Kd.R_drew HO368.out)
      have n1_ := aM (Kd.S_drew HO371.out)
      have n2_ := aM (Kd.R_drew HO377.out)
      have n3_ := aM (Kd.R_drew HO384.out)
      have n4_ := aM (Kd.S_drew HO388.out)
      have n5_ := aM (Kd.R_drew HO395.out)
      have n6_ := aM (Kd.R_drew HO403.out)
      have n7_ := aM (kD BK357.out)
      have n8_ := aM (kD BK358.out)
      have n9_ := aM (kD BK359.out)
      have n10_ := aM (kD BK385.out)
      have n11_ := aM (kD BK389.out)
      have n12_ := aM (b1 HB.out)
      clear HO368
      clear HO371
      clear HO377
      clear HO384
      clear HO388
      clear HO395
      clear HO403
      clear BK357
      clear BK358
      clear BK359
      clear BK385
      clear BK389
      clear HB
      have HO368 := n0_
      have HO371 := n1_
      have HO377 := n2_
      have HO384 := n3_
      have HO388 := n4_
      have HO395 := n5_
      have HO403 := n6_
      have BK357 := n7_
      have BK358 := n8_
      have BK359 := n9_
      have BK385 := n10_
      have BK389 := n11_
      have HB := n12_
      clear n0_ n1_ n2_ n3_ n4_ n5_ n6_ n7_ n8_ n9_ n10_ n11_ n12_
      refine start_ (n := 5) (S := fun w' => w'.cell? ⟨gb389, 0, none⟩ = some (.slice Ao72 t386.length co72) ∧ w'.cell? ⟨gb358, 0, none⟩ = some (.slice A1_0 l1_0.length c1_0)) (ds := []) #[false, false, false, false, false] (by kernel_rfl) rfl rfl ⟨(kC BK389.out 0).trans rfl, (kC BK358.out 0).trans rfl⟩ (fun hHeld => ?_)
      generalize w87.drew = w88 at HO368 HO371 HO377 HO384 HO388 HO395 HO403 BK357 BK358 BK359 BK385 BK389 HB hHeld ⊢
      refine take_ (i := 0) (N := some 51) (v := ?_) (a' := ?_) #[true, false, false, false, false] rfl rfl (by kernel_rfl) (fun _ _ _ h => h) (Or.inl ⟨by rfl, ?_⟩) hHeld ?_ ?_
      rotate_left
      ·rintro w' ⟨s0, s1⟩
       go_simp
       with_reducible rfl
      rotate_left
      ·simp only [Act.put, List.setIfInBounds_toArray, List.set_cons_zero, List.set_cons_succ, i64_w, i32_w]
       rfl
      refine take_ (i := 1) (N := some 52) (v := ?_) (a' := ?_) #[true, true, false, false, false] rfl rfl (by kernel_rfl) (fun _ _ _ h => h) (Or.inl ⟨by rfl, ?_⟩) hHeld ?_ ?_
      rotate_left
      ·rintro w' ⟨s0, s1⟩
       go_simp
       with_reducible rfl
      rotate_left
      ·simp only [Act.put, List.setIfInBounds_toArray, List.set_cons_zero, List.set_cons_succ, i64_w, i32_w]
       rfl
      refine one_ (i := 2) (N := some 53) #[true, true, true, false, false] rfl rfl (by kernel_rfl) (by decide) (fun K hK => ?_)
      refine zGo Try.func56 #[.agg #[.slice A1_0 l1_0.length c1_0]] ?_
      with_reducible refine (laws_toCoefs.calls k _ _ l1_0 t405 _ ?side1 ?side2 A38.out).mono ?_
      (case side1 => exact zC (Kd.C_below HR1_0.out HB.out))
      (case side2 => exact HC1_0.out)
      rintro e w89 ⟨v406, rfl, ho0, hb⟩
      refine ⟨_, rfl, ?_⟩
      obtain ⟨N_HO407, hN_HO407⟩ := sepN ho0
      have n0_ := aM (Kd.R_below (by (with_reducible repeat (first | apply Kd.R_alloc | apply Kd.R_drewN | apply Kd.R_drew)); exact HO368.out) hb)
      have n1_ := aM (sepO (by (with_reducible repeat (first | apply Kd.S_alloc | apply Kd.S_drewN | apply Kd.S_drew)); exact HO371.out) hN_HO407 hb)
      have n2_ := aM (Kd.R_below (by (with_reducible repeat (first | apply Kd.R_alloc | apply Kd.R_drewN | apply Kd.R_drew)); exact HO377.out) hb)
      have n3_ := aM (Kd.R_below (by (with_reducible repeat (first | apply Kd.R_alloc | apply Kd.R_drewN | apply Kd.R_drew)); exact HO384.out) hb)
      have n4_ := aM (sepO (by (with_reducible repeat (first | apply Kd.S_alloc | apply Kd.S_drewN | apply Kd.S_drew)); exact HO388.out) hN_HO407 hb)
      have n5_ := aM (Kd.R_below (by (with_reducible repeat (first | apply Kd.R_alloc | apply Kd.R_drewN | apply Kd.R_drew)); exact HO395.out) hb)
      have n6_ := aM (Kd.R_below (by (with_reducible repeat (first | apply Kd.R_alloc | apply Kd.R_drewN | apply Kd.R_drew)); exact HO403.out) hb)
      have n7_ := aM (Kd.S_lower (Kd.S_new' (sepW (Kd.S_new' (sepW ho0 hN_HO407) (Kd.R_lt (by (with_reducible repeat (first | apply Kd.R_alloc | apply Kd.R_drewN | apply Kd.R_drew)); exact HO377.out))) hN_HO407) (Kd.R_lt (by (with_reducible repeat (first | apply Kd.R_alloc | apply Kd.R_drewN | apply Kd.R_drew)); exact HO395.out))) (below_size zH))
      have n8_ := cB BK357 hb
      have n9_ := cB BK358 hb
      have n10_ := cB BK359 hb
      have n11_ := cB BK385 hb
      have n12_ := cB BK389 hb
      have n13_ := cH HB hb
      clear HO368
      clear HO371
      clear HO377
      clear HO384
      clear HO388
      clear HO395
      clear HO403
      clear BK357
      clear BK358
      clear BK359
      clear BK385
      clear BK389
      clear HB
      have HO368 := n0_
      have HO371 := n1_
      have HO377 := n2_
      have HO384 := n3_
      have HO388 := n4_
      have HO395 := n5_
      have HO403 := n6_
      have HO407 := n7_
      have BK357 := n8_
      have BK358 := n9_
      have BK359 := n10_
      have BK385 := n11_
      have BK389 := n12_
      have HB := n13_
      clear n0_ n1_ n2_ n3_ n4_ n5_ n6_ n7_ n8_ n9_ n10_ n11_ n12_ n13_
      (try clear hb)
      (try clear hb2)
      (try clear hk)
      (try clear hi)
      (try clear ho0)
      obtain ⟨Ao90, co90, eo90⟩ := Kd.S_slice HO407.out
      (first | subst eo90 | (injection eo90 with f1_ f2_ f3_; have f4_ := f1_.symm; have f5_ := f3_.symm; clear f1_ f2_ f3_; subst f4_; subst f5_))
      refine hK.out _ _ ⟨(kC BK389.out 0).trans rfl, (kC BK358.out 0).trans rfl⟩ (fun hHeld => ?_)
      clear hK K
      refine zNo (some 53) ?_
      refine one_ (i := 3) (N := some 54) #[true, true, true, true, false] rfl rfl (by kernel_rfl) (by decide) (fun K hK => ?_)
      refine zGo Try.func46 #[.agg #[.slice Ao72 t386.length co72], .agg #[.slice Ao90 t405.length co90]] ?_
      with_reducible refine (laws_eqCoefs.calls k _ _ t386 _ _ t405 true _ ?side1 ?side2 ?side3 ?side4 A39.out).mono ?_
      (case side1 => exact zC (Kd.S_reads' HO388.out).2.2)
      (case side2 => exact (Kd.S_reads' HO388.out).2.1)
      (case side3 => exact zC (Kd.S_reads' HO407.out).2.2)
      (case side4 => exact (Kd.S_reads' HO407.out).2.1)
      rintro e w91 ⟨rfl, hb⟩
      refine ⟨_, rfl, ?_⟩
      have n0_ := aM (Kd.R_below (by (with_reducible repeat (first | apply Kd.R_alloc | apply Kd.R_drewN | apply Kd.R_drew)); exact HO368.out) hb)
      have n1_ := aM (Kd.S_below (by (with_reducible repeat (first | apply Kd.S_alloc | apply Kd.S_drewN | apply Kd.S_drew)); exact HO371.out) hb)
      have n2_ := aM (Kd.R_below (by (with_reducible repeat (first | apply Kd.R_alloc | apply Kd.R_drewN | apply Kd.R_drew)); exact HO377.out) hb)
      have n3_ := aM (Kd.R_below (by (with_reducible repeat (first | apply Kd.R_alloc | apply Kd.R_drewN | apply Kd.R_drew)); exact HO384.out) hb)
      have n4_ := aM (Kd.S_below (by (with_reducible repeat (first | apply Kd.S_alloc | apply Kd.S_drewN | apply Kd.S_drew)); exact HO388.out) hb)
      have n5_ := aM (Kd.R_below (by (with_reducible repeat (first | apply Kd.R_alloc | apply Kd.R_drewN | apply Kd.R_drew)); exact HO395.out) hb)
      have n6_ := aM (Kd.R_below (by (with_reducible repeat (first | apply Kd.R_alloc | apply Kd.R_drewN | apply Kd.R_drew)); exact HO403.out) hb)
      have n7_ := aM (Kd.S_below (by (with_reducible repeat (first | apply Kd.S_alloc | apply Kd.S_drewN | apply Kd.S_drew)); exact HO407.out) hb)
      have n8_ := cB BK357 hb
      have n9_ := cB BK358 hb
      have n10_ := cB BK359 hb
      have n11_ := cB BK385 hb
      have n12_ := cB BK389 hb
      have n13_ := cH HB hb
      clear HO368
      clear HO371
      clear HO377
      clear HO384
      clear HO388
      clear HO395
      clear HO403
      clear HO407
      clear BK357
      clear BK358
      clear BK359
      clear BK385
      clear BK389
      clear HB
      have HO368 := n0_
      have HO371 := n1_
      have HO377 := n2_
      have HO384 := n3_
      have HO388 := n4_
      have HO395 := n5_
      have HO403 := n6_
      have HO407 := n7_
      have BK357 := n8_
      have BK358 := n9_
      have BK359 := n10_
      have BK385 := n11_
      have BK389 := n12_
      have HB := n13_
      clear n0_ n1_ n2_ n3_ n4_ n5_ n6_ n7_ n8_ n9_ n10_ n11_ n12_ n13_
      (try clear hb)
      (try clear hb2)
      (try clear hk)
      (try clear hi)
      refine hK.out _ _ ⟨(kC BK389.out 0).trans rfl, (kC BK358.out 0).trans rfl⟩ (fun hHeld => ?_)
      clear hK K
      refine zNo (some 54) ?_
      refine pure_ (i := 4) (N := some 55) (v := ?_) (a' := ?_) #[true, true, true, true, true] rfl rfl (by kernel_rfl) (fun _ _ _ h => h) (Or.inl ⟨by rfl, ?_⟩) ?_ ?_
      rotate_left
      ·intro w'
       go_simp
       with_reducible rfl
      rotate_left
      ·simp only [Act.put, List.setIfInBounds_toArray, List.set_cons_zero, List.set_cons_succ, i64_w, i32_w]
       rfl
      refine done_ (by kernel_rfl) ?_
      obtain ⟨hcz92_0, hcz92_1, hcz92_2, hcz92_3, hcz92_4⟩ := kk5 BK385
      obtain ⟨hfz92_0, hfz92_1, hfz92_2, hfz92_3, hfz92_4⟩ := kg5 BK385
      go_upto_region 21 with (first | (go_at_call 47; (with_reducible refine (laws_markFrame.calls k t378 t379 t380 t381 (fun k_ => some k_ = (.slice Ao68 t382.length co68 : Value).ownBlock) (.slice Ao68 t382.length co68) t382 1 t409 t410 w _ ?side1 ?side2 A41.out).mono ?_); (case side1 => repeat (first | (with_reducible first | exact HB.out | apply bA | apply bN | apply b1 | refine bS ?_ GE357.out | refine bS ?_ GE358.out | refine bS ?_ GE359.out | refine bS ?_ GE385.out | refine bS ?_ GE389.out) | exact HB.out)); (case side2 => exact Kd.R_tight rfl HO384.out); rintro e w93 ⟨rfl, hy0, hb, hkp⟩; ((first | (with_reducible have hq_ := blk_kept (kN BK357.out _) hkp) | (with_reducible have hq_ := blk_kept BK357.out hkp)); have n0_ := aM (hq_ (fun hs_ => (fun e_ => (Kd.R_ne HO384.out BK357.out (by decide)) e_) hs_)); clear hq_); ((first | (with_reducible have hq_ := blk_kept (kN BK358.out _) hkp) | (with_reducible have hq_ := blk_kept BK358.out hkp)); have n1_ := aM (hq_ (fun hs_ => (fun e_ => (Kd.R_ne HO384.out BK358.out (by decide)) e_) hs_)); clear hq_); ((first | (with_reducible have hq_ := blk_kept (kN BK359.out _) hkp) | (with_reducible have hq_ := blk_kept BK359.out hkp)); have n2_ := aM (hq_ (fun hs_ => (fun e_ => (Kd.R_ne HO384.out BK359.out (by decide)) e_) hs_)); clear hq_); have n3_ := aM (Kd.R_mono (ok' := fun k_ => some k_ ≠ (.slice Ao82 t393.length co82 : Value).ownBlock) (Kd.R_keptB ((Kd.R_apart' HO377.out (Kd.R_typed HO384.out) (by decide))) hkp (fun k_ hk_ hs_ => by simp only [ne_eq, hs_, not_true_eq_false, and_false, false_and] at hk_)) (fun k_ hk_ => by first | exact hk_.1.1.2 | simp only [ne_eq, hk_, not_false_eq_true, and_self])); have n4_ := aM (Kd.R_reok rfl hy0 (fun k_ e_ => HO384.out.1 k_ e_)); ((first | (with_reducible have hq_ := blk_kept (kN BK385.out _) hkp) | (with_reducible have hq_ := blk_kept BK385.out hkp)); have n5_ := aM (hq_ (fun hs_ => (fun e_ => (Kd.R_ne HO384.out BK385.out (by decide)) e_) hs_)); clear hq_); have n6_ := aM (Kd.S_mono (ok' := fun k_ => some k_ ≠ (.slice Ao83 t375.length co83 : Value).ownBlock ∧ some k_ ≠ (.slice Ao82 t393.length co82 : Value).ownBlock) (Kd.S_keptB ((Kd.S_apart' HO388.out (Kd.R_typed HO384.out) (by decide))) hkp (fun k_ hk_ hs_ => by simp only [ne_eq, hs_, not_true_eq_false, and_false, false_and] at hk_)) (fun k_ hk_ => by simp only [ne_eq, hk_, not_false_eq_true, and_self])); ((first | (with_reducible have hq_ := blk_kept (kN BK389.out _) hkp) | (with_reducible have hq_ := blk_kept BK389.out hkp)); have n7_ := aM (hq_ (fun hs_ => (fun e_ => (Kd.R_ne HO384.out BK389.out (by decide)) e_) hs_)); clear hq_); have n8_ := aM (Kd.R_mono (ok' := fun k_ => some k_ ≠ (.slice Ao83 t375.length co83 : Value).ownBlock) (Kd.R_keptB ((Kd.R_apart' HO395.out (Kd.R_typed HO384.out) (by decide))) hkp (fun k_ hk_ hs_ => by simp only [ne_eq, hs_, not_true_eq_false, and_false, false_and] at hk_)) (fun k_ hk_ => by first | exact hk_.1.1.2 | simp only [ne_eq, hk_, not_false_eq_true, and_self])); have n9_ := aM (hb); clear BK357; clear BK358; clear BK359; clear HO377; clear HO384; clear BK385; clear HO388; clear BK389; clear HO395; clear HB; have BK357 := n0_; have BK358 := n1_; have BK359 := n2_; have HO377 := n3_; have HO384 := n4_; have BK385 := n5_; have HO388 := n6_; have BK389 := n7_; have HO395 := n8_; have HB := n9_; clear n0_ n1_ n2_ n3_ n4_ n5_ n6_ n7_ n8_ n9_; (try clear hb); (try clear hkp); (try clear hy0); have hcz94_0 := kk1 BK389; have hfz94_0 := kg1 BK389) | (go_at_call 48; (refine (laws_markCoefs.calls k _ (.slice Ao72 t386.length co72) t386 t409 t411 t412 w _ ?side1 (by first | exact Kd.S_bound HO388.out | exact Kd.S_drewN (Kd.S_bound HO388.out) _) A42.out).mono ?_); (case side1 => repeat (first | (with_reducible first | exact HB.out | apply bA | apply bN | apply b1 | refine bS ?_ GE357.out | refine bS ?_ GE358.out | refine bS ?_ GE359.out | refine bS ?_ GE385.out | refine bS ?_ GE389.out) | exact HB.out)); rintro e w95 ⟨rfl, hy0, hb, hkp⟩; ((first | (with_reducible have hq_ := blk_kept (kN BK357.out _) hkp) | (with_reducible have hq_ := blk_kept BK357.out hkp)); have n0_ := aM (hq_ (fun hs_ => blkNo (zK BK357) hs_.2.2.2 (by decide))); clear hq_); ((first | (with_reducible have hq_ := blk_kept (kN BK358.out _) hkp) | (with_reducible have hq_ := blk_kept BK358.out hkp)); have n1_ := aM (hq_ (fun hs_ => blkNo (zK BK358) hs_.2.2.2 (by decide))); clear hq_); ((first | (with_reducible have hq_ := blk_kept (kN BK359.out _) hkp) | (with_reducible have hq_ := blk_kept BK359.out hkp)); have n2_ := aM (hq_ (fun hs_ => blkNo (zK BK359) hs_.2.2.2 (by decide))); clear hq_); have n3_ := aM (keptO rfl (by (with_reducible repeat (first | apply Kd.R_alloc | apply Kd.R_drewN | apply Kd.R_drew)); exact HO377.out) hkp (fun k_ e_ hs_ => (hs_.1.1) e_)); have n4_ := aM (keptT rfl (by (with_reducible repeat (first | apply Kd.R_alloc | apply Kd.R_drewN | apply Kd.R_drew)); exact HO384.out) hkp (fun _ h_ => h_.2.2.2) (by decide)); ((first | (with_reducible have hq_ := blk_kept (kN BK385.out _) hkp) | (with_reducible have hq_ := blk_kept BK385.out hkp)); have n5_ := aM (hq_ (fun hs_ => blkNo (zK BK385) hs_.2.2.2 (by decide))); clear hq_); have n6_ := aM (Kd.S_mono hy0 (fun _ h_ => h_.1)); ((first | (with_reducible have hq_ := blk_kept (kN BK389.out _) hkp) | (with_reducible have hq_ := blk_kept BK389.out hkp)); have n7_ := aM (hq_ (fun hs_ => blkNo (zK BK389) hs_.2.2.2 (by decide))); clear hq_); have n8_ := aM (keptO rfl (by (with_reducible repeat (first | apply Kd.R_alloc | apply Kd.R_drewN | apply Kd.R_drew)); exact HO395.out) hkp (fun k_ e_ hs_ => (hs_.1.2) e_)); have n9_ := aM (hb); clear BK357; clear BK358; clear BK359; clear HO377; clear HO384; clear BK385; clear HO388; clear BK389; clear HO395; clear HB; have BK357 := n0_; have BK358 := n1_; have BK359 := n2_; have HO377 := n3_; have HO384 := n4_; have BK385 := n5_; have HO388 := n6_; have BK389 := n7_; have HO395 := n8_; have HB := n9_; clear n0_ n1_ n2_ n3_ n4_ n5_ n6_ n7_ n8_ n9_; (try clear hb); (try clear hkp); (try clear hy0)))
      (try simp only [Act.put, List.setIfInBounds_toArray, List.set_cons_zero, List.set_cons_succ])
      go_cut [69] (fun v69 wc => ∃ (kq : Nat) (x69_42 : Bool), v69 = .bool x69_42 ∧ Aside0 (laws_FnExactBlockAt.j0 kq t375 t393 x69_42 a0_0 a0_1 a0_2 a0_3 l0_4 l1_0 a2_0 a2_1 a2_2 = some r) ∧ Aside0 (kq ≤ k) ∧ Aside0 (Kd.R (Kd.int .i64) 3 wc w.heap.size (fun k_ => some k_ ≠ ((.slice Ao82 t393.length co82) : Value).ownBlock) (.slice Ao83 t375.length co83) t375) ∧ Aside0 (Kd.R (Kd.int .i64) 3 wc w.heap.size (fun k_ => some k_ ≠ ((.slice Ao83 t375.length co83) : Value).ownBlock) (.slice Ao82 t393.length co82) t393) ∧ Aside0 (Kd.R k42 42 wc w.heap.size (fun _ => True) (.slice Ao68 t382.length co68) t410) ∧ Aside0 (Kd.S (sliceS 22 (Kd.slice 3 (Kd.int .i64))) 49 wc w.heap.size (fun k_ => some k_ ≠ ((.slice Ao83 t375.length co83) : Value).ownBlock ∧ some k_ ≠ ((.slice Ao82 t393.length co82) : Value).ownBlock) (.slice Ao72 t386.length co72) t412) ∧ Aside0 (wc.heap[gb357]? = some (.cells #[.int .i64 a0_0, .int .i64 a0_1, .int .i64 a0_2, .int .i64 a0_3, (.slice A0_4 l0_4.length c0_4)] 55 (0, 0))) ∧ Aside0 (wc.heap[gb358]? = some (.cells #[(.slice A1_0 l1_0.length c1_0)] 72 (0, 0))) ∧ Aside0 (wc.heap[gb359]? = some (.cells #[.int .i64 a2_0, .int .i64 a2_1, .int .i64 a2_2] 85 (0, 0))) ∧ Aside0 (wc.heap[gb385]? = some (.cells #[.int .i64 t378, .int .i64 t379, .int .i64 t380, .int .i64 t381, (.slice Ao68 t382.length co68)] 45 (0, 0))) ∧ Aside0 (wc.heap[gb389]? = some (.cells #[(.slice Ao72 t386.length co72)] 63 (0, 0))) ∧ Aside0 (Below w.heap.size w wc))
      case first =>
       have H := HC43.out
       clear HC43
       by_cases c96 : t411 < 0
       ·rw [if_pos c96] at H
        have c96b0 : decide (t411 < 0) = true := decide_eq_true c96
        clear c96
        (first | rw [c96b0] | (simp only [i64_w, i32_w]; rw [c96b0]) | skip)
        have H' := aM H
        clear H
        go_wp2
        go_meet
        case rel => exact ⟨_, (true), zS, H', zO, ⟨by (with_reducible repeat (first | apply Kd.R_alloc | apply Kd.R_drewN | apply Kd.R_drew)); exact HO377.out⟩, ⟨by (with_reducible repeat (first | apply Kd.R_alloc | apply Kd.R_drewN | apply Kd.R_drew)); exact HO395.out⟩, ⟨by (with_reducible repeat (first | apply Kd.R_alloc | apply Kd.R_drewN | apply Kd.R_drew)); exact Kd.R_mono HO384.out (fun _ hk => trivial)⟩, ⟨by (with_reducible repeat (first | apply Kd.S_alloc | apply Kd.S_drewN | apply Kd.S_drew)); exact HO388.out⟩, ⟨zK BK357⟩, ⟨zK BK358⟩, ⟨zK BK359⟩, ⟨zK BK385⟩, ⟨zK BK389⟩, ⟨zH⟩⟩
       ·rw [if_neg c96] at H
        have c96b0 : decide (t411 < 0) = false := decide_eq_false c96
        clear c96
        (first | rw [c96b0] | (simp only [i64_w, i32_w]; rw [c96b0]) | skip)
        obtain ⟨t413, A97, H⟩ := oH H
        have H' := aM H
        clear H
        go_wp2_with (first | (go_at_call 20; (with_reducible refine (laws_eqIntS.calls k _ _ t393 _ _ t375 t413 _ ?side1 ?side2 ?side3 ?side4 A97.out).mono ?_); (case side1 => exact zC (Kd.R_reads' HO395.out).2.2); (case side2 => exact (Kd.R_reads' HO395.out).2.1); (case side3 => exact zC (Kd.R_reads' HO377.out).2.2); (case side4 => exact (Kd.R_reads' HO377.out).2.1); rintro e w' ⟨rfl, ⟨nd, rfl⟩⟩))
        go_meet
        case rel => exact ⟨_, (!t413), zS, H', zO, ⟨by (with_reducible repeat (first | apply Kd.R_alloc | apply Kd.R_drewN | apply Kd.R_drew)); exact HO377.out⟩, ⟨by (with_reducible repeat (first | apply Kd.R_alloc | apply Kd.R_drewN | apply Kd.R_drew)); exact HO395.out⟩, ⟨by (with_reducible repeat (first | apply Kd.R_alloc | apply Kd.R_drewN | apply Kd.R_drew)); exact Kd.R_mono HO384.out (fun _ hk => trivial)⟩, ⟨by (with_reducible repeat (first | apply Kd.S_alloc | apply Kd.S_drewN | apply Kd.S_drew)); exact HO388.out⟩, ⟨zK BK357⟩, ⟨zK BK358⟩, ⟨zK BK359⟩, ⟨zK BK385⟩, ⟨zK BK389⟩, ⟨zH⟩⟩
      case rest =>
       clear HC43
       (try clear hcz92_0); (try clear hcz92_1); (try clear hcz92_2); (try clear hcz92_3); (try clear hcz92_4); (try clear hcz94_0); (try clear hfz92_0); (try clear hfz92_1); (try clear hfz92_2); (try clear hfz92_3); (try clear hfz92_4); (try clear hfz94_0)
       obtain ⟨kq, x69_42, rfl, HA, HJ42, HO_8, HO_11, HO_386004, HO_390000, BK357, BK358, BK359, BK385, BK389, HB⟩ := hcut
       have hl386004_42 := (Kd.R_reads' HO_386004.out).1
       rw [hl386004_42] at HO_386004
       (try simp only [hl386004_42])
       (try simp only [hl386004_42] at BK357)
       (try simp only [hl386004_42] at BK358)
       (try simp only [hl386004_42] at BK359)
       (try simp only [hl386004_42] at BK385)
       (try simp only [hl386004_42] at BK389)
       (try simp only [hl386004_42] at HO_8)
       (try simp only [hl386004_42] at HO_11)
       (try simp only [hl386004_42] at HO_390000)
       have hl390000_42 := (Kd.S_reads' HO_390000.out).1
       rw [hl390000_42] at HO_390000
       (try simp only [hl390000_42])
       (try simp only [hl390000_42] at BK357)
       (try simp only [hl390000_42] at BK358)
       (try simp only [hl390000_42] at BK359)
       (try simp only [hl390000_42] at BK385)
       (try simp only [hl390000_42] at BK389)
       (try simp only [hl390000_42] at HO_8)
       (try simp only [hl390000_42] at HO_11)
       (try simp only [hl390000_42] at HO_386004)
       cases kq with
       | zero => exact absurd HA.out (by simp [laws_FnExactBlockAt.j0])
       | succ kj42 =>
        have H := HA.out
        clear HA
        simp only [laws_FnExactBlockAt.j0] at H
        by_cases c98 : x69_42 = true
        ·subst c98
         replace H := iT H
         exact noArm H HTRUE_.out
        ·replace c98 := Bool.eq_false_iff.mpr c98
         subst c98
         replace H := iF H
         replace H := oB H
         obtain ⟨⟨t414, t415⟩, A990, H⟩ := H
         replace H : ((laws_heldIntS.f kj42 t415 1).bind fun t416 => (if t416 < 0 then (some false) else (if t416 = t414 then ((laws_toFrame.f kj42 a0_0 a0_1 a0_2 a0_3 l0_4).bind fun bt417 => ((laws_toCoefs.f kj42 l1_0).bind fun t424 => ((laws_toPlace.f a2_0 a2_1 a2_2).bind fun bt427 => ((impl_BlockAt.f kj42 bt417.1 bt417.2.1 bt417.2.2.1 bt417.2.2.2.1 bt417.2.2.2.2 t424 bt427.1 bt427.2.1 bt427.2.2).bind fun t430 => ((laws_eqIntS.f kj42 t430 t375).bind fun t433 => (if t433 = true then ((laws_heldIntS.f kj42 t415 1).bind fun t434 => (if t434 < 0 then (some false) else (if t434 = t414 then (some true) else (some false)))) else (some false))))))) else (some false)))) = some r := H
         have A99 := aM A990
         clear A990
         obtain ⟨t416, A100, H⟩ := oH H
         by_cases c101 : t416 < 0
         ·rw [if_pos c101] at H
          have c101b0 : decide (t416 < 0) = true := decide_eq_true c101
          clear c101
          exact noArm H HTRUE_.out
         ·rw [if_neg c101] at H
          have c101b0 : decide (t416 < 0) = false := decide_eq_false c101
          clear c101
          by_cases c102 : t416 = t414
          ·rw [if_pos c102] at H
           have c102b0 : (t416 == t414) = true := beq_iff_eq.mpr c102
           have c102b1 : (t416 != t414) = false := bne_eq_false_iff_eq.mpr c102
           clear c102
           replace H := oB H
           obtain ⟨⟨t417, t418, t419, t420, t421⟩, A1030, H⟩ := H
           replace H : ((laws_toCoefs.f kj42 l1_0).bind fun t424 => ((laws_toPlace.f a2_0 a2_1 a2_2).bind fun bt427 => ((impl_BlockAt.f kj42 t417 t418 t419 t420 t421 t424 bt427.1 bt427.2.1 bt427.2.2).bind fun t430 => ((laws_eqIntS.f kj42 t430 t375).bind fun t433 => (if t433 = true then ((laws_heldIntS.f kj42 t415 1).bind fun t434 => (if t434 < 0 then (some false) else (if t434 = t414 then (some true) else (some false)))) else (some false)))))) = some r := H
           have A103 := aM A1030
           clear A1030
           obtain ⟨t424, A104, H⟩ := oH H
           replace H := oB H
           obtain ⟨⟨t427, t428, t429⟩, A1050, H⟩ := H
           replace H : ((impl_BlockAt.f kj42 t417 t418 t419 t420 t421 t424 t427 t428 t429).bind fun t430 => ((laws_eqIntS.f kj42 t430 t375).bind fun t433 => (if t433 = true then ((laws_heldIntS.f kj42 t415 1).bind fun t434 => (if t434 < 0 then (some false) else (if t434 = t414 then (some true) else (some false)))) else (some false)))) = some r := H
           have A105 := aM A1050
           clear A1050
           obtain ⟨t430, A106, H⟩ := oH H
           obtain ⟨t433, A107, H⟩ := oH H
           by_cases c108 : t433 = true
           ·subst c108
            replace H := iT H
            obtain ⟨t434, A109, H⟩ := oH H
            by_cases c110 : t434 < 0
            ·rw [if_pos c110] at H
             have c110b0 : decide (t434 < 0) = true := decide_eq_true c110
             clear c110
             exact noArm H HTRUE_.out
            ·rw [if_neg c110] at H
             have c110b0 : decide (t434 < 0) = false := decide_eq_false c110
             clear c110
             by_cases c111 : t434 = t414
             ·rw [if_pos c111] at H
              have c111b0 : (t434 == t414) = true := beq_iff_eq.mpr c111
              have c111b1 : (t434 != t414) = false := bne_eq_false_iff_eq.mpr c111
              clear c111
              obtain rfl := Option.some.inj H
              try go_wp2_with (first | (go_at_call 22; (with_reducible refine (laws_markIntS.calls kj42 (fun k_ => some k_ = (.slice Ao82 t393.length co82 : Value).ownBlock) (.slice Ao82 t393.length co82) t393 1 t414 t415 w _ ?side1 ?side2 A99.out).mono ?_); (case side1 => repeat (first | (with_reducible first | exact HB.out | apply bA | apply bN | apply b1 | refine bS ?_ GE357.out | refine bS ?_ GE358.out | refine bS ?_ GE359.out | refine bS ?_ GE385.out | refine bS ?_ GE389.out) | exact HB.out)); (case side2 => exact Kd.R_tight rfl HO_11.out); rintro e w112 ⟨rfl, hy0, hb, hkp⟩; have n0_ := aM (Kd.R_mono (ok' := fun k_ => some k_ ≠ (.slice Ao82 t393.length co82 : Value).ownBlock) (Kd.R_keptB (HO_8.out) hkp (fun k_ hk_ hs_ => by simp only [ne_eq, hs_, not_true_eq_false, and_false, false_and] at hk_)) (fun k_ hk_ => by first | exact hk_.1 | simp only [ne_eq, hk_, not_false_eq_true, and_self])); have n1_ := aM (Kd.R_reok rfl hy0 (fun k_ e_ => HO_11.out.1 k_ e_)); have n2_ := aM (Kd.R_mono (ok' := fun k_ => True) (Kd.R_keptB ((Kd.R_apart' HO_386004.out (Kd.R_typed HO_11.out) (by decide))) hkp (fun k_ hk_ hs_ => by simp only [ne_eq, hs_, not_true_eq_false, and_false, false_and] at hk_)) (fun k_ hk_ => trivial)); have n3_ := aM (Kd.S_mono (ok' := fun k_ => some k_ ≠ (.slice Ao83 t375.length co83 : Value).ownBlock ∧ some k_ ≠ (.slice Ao82 t393.length co82 : Value).ownBlock) (Kd.S_keptB (HO_390000.out) hkp (fun k_ hk_ hs_ => by simp only [ne_eq, hs_, not_true_eq_false, and_false, false_and] at hk_)) (fun k_ hk_ => by simp only [ne_eq, hk_, not_false_eq_true, and_self])); ((first | (with_reducible have hq_ := blk_kept (kN BK357.out _) hkp) | (with_reducible have hq_ := blk_kept BK357.out hkp)); have n4_ := aM (hq_ (fun hs_ => (fun e_ => (Kd.R_ne HO_11.out BK357.out (by decide)) e_) hs_)); clear hq_); ((first | (with_reducible have hq_ := blk_kept (kN BK358.out _) hkp) | (with_reducible have hq_ := blk_kept BK358.out hkp)); have n5_ := aM (hq_ (fun hs_ => (fun e_ => (Kd.R_ne HO_11.out BK358.out (by decide)) e_) hs_)); clear hq_); ((first | (with_reducible have hq_ := blk_kept (kN BK359.out _) hkp) | (with_reducible have hq_ := blk_kept BK359.out hkp)); have n6_ := aM (hq_ (fun hs_ => (fun e_ => (Kd.R_ne HO_11.out BK359.out (by decide)) e_) hs_)); clear hq_); ((first | (with_reducible have hq_ := blk_kept (kN BK385.out _) hkp) | (with_reducible have hq_ := blk_kept BK385.out hkp)); have n7_ := aM (hq_ (fun hs_ => (fun e_ => (Kd.R_ne HO_11.out BK385.out (by decide)) e_) hs_)); clear hq_); ((first | (with_reducible have hq_ := blk_kept (kN BK389.out _) hkp) | (with_reducible have hq_ := blk_kept BK389.out hkp)); have n8_ := aM (hq_ (fun hs_ => (fun e_ => (Kd.R_ne HO_11.out BK389.out (by decide)) e_) hs_)); clear hq_); have n9_ := aM (hb); clear HO_8; clear HO_11; clear HO_386004; clear HO_390000; clear BK357; clear BK358; clear BK359; clear BK385; clear BK389; clear HB; have HO_8 := n0_; have HO_11 := n1_; have HO_386004 := n2_; have HO_390000 := n3_; have BK357 := n4_; have BK358 := n5_; have BK359 := n6_; have BK385 := n7_; have BK389 := n8_; have HB := n9_; clear n0_ n1_ n2_ n3_ n4_ n5_ n6_ n7_ n8_ n9_; (try clear hb); (try clear hkp); (try clear hy0)) | ((with_reducible refine gate_callee (f := 24) rfl ?_); refine goesL_ (some 75) rfl rfl Try.func24 (by kernel_rfl) rfl #[.slice Ao82 t415.length co82, .int .i64 1] rfl (by (try simp only [List.map_toArray, List.map_cons, List.map_nil]); first | done | (rw [show t415.length = t393.length from (Kd.R_reads' HO_11.out).1.symm] <;> rfl) | rfl | (simp only [List.length_drop, List.length_take]; rfl)) ?_; (with_reducible refine (laws_heldIntS.calls kj42 _ _ t415 1 t416 _ ?side1 ?side2 A100.out).mono ?_); (case side1 => exact zC (Kd.R_reads' HO_11.out).2.2); (case side2 => rw [show t415.length = t393.length from (Kd.R_reads' HO_11.out).1.symm]; exact (Kd.R_reads' HO_11.out).2.1); rintro e w' ⟨rfl, ⟨nd, rfl⟩⟩; refine ⟨_, rfl, ?_⟩))
              (try (rw [drewN_self w112]; generalize hq_ : World.drewN w112 _ = w112; have n0_ : Aside0 (Kd.R (Kd.int .i64) 3 w112 w.heap.size (fun k_ => some k_ ≠ (.slice Ao83 t375.length co83 : Value).ownBlock) (.slice Ao82 t393.length co82) t415) := ⟨by rw [← hq_]; exact (by (with_reducible repeat (first | apply Kd.R_alloc | apply Kd.R_drewN | apply Kd.R_drew)); exact HO_11.out)⟩; have n1_ : Aside0 (Kd.R k42 42 w112 w.heap.size (fun _ => True) (.slice Ao68 t410.length co68) t410) := ⟨by rw [← hq_]; exact (by (with_reducible repeat (first | apply Kd.R_alloc | apply Kd.R_drewN | apply Kd.R_drew)); exact HO_386004.out)⟩; have n2_ : Aside0 (Kd.S (sliceS 22 (Kd.slice 3 (Kd.int .i64))) 49 w112 w.heap.size (fun k_ => some k_ ≠ (.slice Ao82 t393.length co82 : Value).ownBlock ∧ some k_ ≠ (.slice Ao83 t375.length co83 : Value).ownBlock) (.slice Ao72 t412.length co72) t412) := ⟨by rw [← hq_]; exact (by (with_reducible repeat (first | apply Kd.S_alloc | apply Kd.S_drewN | apply Kd.S_drew)); exact Kd.S_mono HO_390000.out (fun _ hk => by simp only [ne_eq, hk, not_false_eq_true, and_self]))⟩; have n3_ : Aside0 (Kd.R (Kd.int .i64) 3 w112 w.heap.size (fun k_ => some k_ ≠ (.slice Ao82 t393.length co82 : Value).ownBlock) (.slice Ao83 t375.length co83) t375) := ⟨by rw [← hq_]; exact (by (with_reducible repeat (first | apply Kd.R_alloc | apply Kd.R_drewN | apply Kd.R_drew)); exact HO_8.out)⟩; have n4_ : Aside0 (w112.heap[gb357]? = some (.cells #[.int .i64 a0_0, .int .i64 a0_1, .int .i64 a0_2, .int .i64 a0_3, .slice A0_4 l0_4.length c0_4] 55 (0, 0))) := ⟨by rw [← hq_]; exact (zK BK357)⟩; have n5_ : Aside0 (w112.heap[gb358]? = some (.cells #[.slice A1_0 l1_0.length c1_0] 72 (0, 0))) := ⟨by rw [← hq_]; exact (zK BK358)⟩; have n6_ : Aside0 (w112.heap[gb359]? = some (.cells #[.int .i64 a2_0, .int .i64 a2_1, .int .i64 a2_2] 85 (0, 0))) := ⟨by rw [← hq_]; exact (zK BK359)⟩; have n7_ : Aside0 (w112.heap[gb385]? = some (.cells #[.int .i64 t378, .int .i64 t379, .int .i64 t380, .int .i64 t381, .slice Ao68 t410.length co68] 45 (0, 0))) := ⟨by rw [← hq_]; exact (zK BK385)⟩; have n8_ : Aside0 (w112.heap[gb389]? = some (.cells #[.slice Ao72 t412.length co72] 63 (0, 0))) := ⟨by rw [← hq_]; exact (zK BK389)⟩; have n9_ : Aside0 (Below w.heap.size w w112) := ⟨by rw [← hq_]; exact zH⟩; clear HO_11 HO_386004 HO_390000 HO_8 BK357 BK358 BK359 BK385 BK389 HB hq_; have HO_11 := n0_; have HO_386004 := n1_; have HO_390000 := n2_; have HO_8 := n3_; have BK357 := n4_; have BK358 := n5_; have BK359 := n6_; have BK385 := n7_; have BK389 := n8_; have HB := n9_; clear n0_ n1_ n2_ n3_ n4_ n5_ n6_ n7_ n8_ n9_))
              have n0_ := aM (Kd.R_drew HO_8.out)
              have n1_ := aM (Kd.R_drew HO_11.out)
              have n2_ := aM (Kd.R_drew HO_386004.out)
              have n3_ := aM (Kd.S_drew HO_390000.out)
              have n4_ := aM (kD BK357.out)
              have n5_ := aM (kD BK358.out)
              have n6_ := aM (kD BK359.out)
              have n7_ := aM (kD BK385.out)
              have n8_ := aM (kD BK389.out)
              have n9_ := aM (b1 HB.out)
              clear HO_8
              clear HO_11
              clear HO_386004
              clear HO_390000
              clear BK357
              clear BK358
              clear BK359
              clear BK385
              clear BK389
              clear HB
              have HO_8 := n0_
              have HO_11 := n1_
              have HO_386004 := n2_
              have HO_390000 := n3_
              have BK357 := n4_
              have BK358 := n5_
              have BK359 := n6_
              have BK385 := n7_
              have BK389 := n8_
              have HB := n9_
              clear n0_ n1_ n2_ n3_ n4_ n5_ n6_ n7_ n8_ n9_
              refine start_ (n := 8) (S := fun w' => w'.cell? ⟨gb357, 0, none⟩ = some (.int .i64 a0_0) ∧ w'.cell? ⟨gb357, 1, none⟩ = some (.int .i64 a0_1) ∧ w'.cell? ⟨gb357, 2, none⟩ = some (.int .i64 a0_2) ∧ w'.cell? ⟨gb357, 3, none⟩ = some (.int .i64 a0_3) ∧ w'.cell? ⟨gb357, 4, none⟩ = some (.slice A0_4 l0_4.length c0_4) ∧ w'.cell? ⟨gb358, 0, none⟩ = some (.slice A1_0 l1_0.length c1_0) ∧ w'.cell? ⟨gb359, 0, none⟩ = some (.int .i64 a2_0) ∧ w'.cell? ⟨gb359, 1, none⟩ = some (.int .i64 a2_1) ∧ w'.cell? ⟨gb359, 2, none⟩ = some (.int .i64 a2_2)) (ds := []) #[false, false, false, false, false, false, false, false] (by kernel_rfl) rfl rfl ⟨(kC BK357.out 0).trans rfl, (kC BK357.out 1).trans rfl, (kC BK357.out 2).trans rfl, (kC BK357.out 3).trans rfl, (kC BK357.out 4).trans rfl, (kC BK358.out 0).trans rfl, (kC BK359.out 0).trans rfl, (kC BK359.out 1).trans rfl, (kC BK359.out 2).trans rfl⟩ (fun hHeld => ?_); refine with_tabW laws_FnExactBlockAt.tab31 laws_FnExactBlockAt.bits31 (fun HT_ HW_ => ?_)
              generalize w112.drew = w113 at HO_8 HO_11 HO_386004 HO_390000 BK357 BK358 BK359 BK385 BK389 HB hHeld ⊢
              refine zT 0 (some 81) HT_ HW_ hHeld (hy := Or.inl ⟨by rfl, by rintro w' ⟨s0, s1, s2, s3, s4, s5, s6, s7, s8⟩; go_simp; with_reducible rfl⟩) (h := ?_)
              refine zT 2 (some 83) HT_ HW_ hHeld (hy := Or.inl ⟨by rfl, by rintro w' ⟨s0, s1, s2, s3, s4, s5, s6, s7, s8⟩; go_simp; with_reducible rfl⟩) (h := ?_)
              refine zT 4 (some 85) HT_ HW_ hHeld (hy := Or.inl ⟨by rfl, by rintro w' ⟨s0, s1, s2, s3, s4, s5, s6, s7, s8⟩; go_simp; with_reducible rfl⟩) (h := ?_)
              refine zOn 1 (some 82) HT_ (fun K hK => ?_)
              refine zGo Try.func41 #[.agg #[.int .i64 a0_0, .int .i64 a0_1, .int .i64 a0_2, .int .i64 a0_3, .slice A0_4 l0_4.length c0_4]] ?_
              with_reducible refine (laws_toFrame.calls kj42 a0_0 a0_1 a0_2 a0_3 _ _ l0_4 t417 t418 t419 t420 t421 _ ?side1 ?side2 A103.out).mono ?_
              (case side1 => exact zC (Kd.C_below HR0_4.out HB.out))
              (case side2 => exact HC0_4.out)
              rintro e w114 ⟨v422, rfl, ho0, hb⟩
              refine ⟨_, rfl, ?_⟩
              have n0_ := aM (Kd.R_below (by (with_reducible repeat (first | apply Kd.R_alloc | apply Kd.R_drewN | apply Kd.R_drew)); exact HO_8.out) hb)
              have n1_ := aM (Kd.R_below (by (with_reducible repeat (first | apply Kd.R_alloc | apply Kd.R_drewN | apply Kd.R_drew)); exact HO_11.out) hb)
              have n2_ := aM (Kd.R_elder' (by (with_reducible repeat (first | apply Kd.R_alloc | apply Kd.R_drewN | apply Kd.R_drew)); exact HO_386004.out) (Kd.R_base ho0) hb)
              have n3_ := aM (Kd.S_below (by (with_reducible repeat (first | apply Kd.S_alloc | apply Kd.S_drewN | apply Kd.S_drew)); exact HO_390000.out) hb)
              have n4_ := aM (Kd.R_lower (Kd.R_new' ho0 (Kd.R_lt (by (with_reducible repeat (first | apply Kd.R_alloc | apply Kd.R_drewN | apply Kd.R_drew)); exact HO_386004.out))) (below_size zH))
              have n5_ := cB BK357 hb
              have n6_ := cB BK358 hb
              have n7_ := cB BK359 hb
              have n8_ := cB BK385 hb
              have n9_ := cB BK389 hb
              have n10_ := cH HB hb
              clear HO_8
              clear HO_11
              clear HO_386004
              clear HO_390000
              clear BK357
              clear BK358
              clear BK359
              clear BK385
              clear BK389
              clear HB
              have HO_8 := n0_
              have HO_11 := n1_
              have HO_386004 := n2_
              have HO_390000 := n3_
              have HO423 := n4_
              have BK357 := n5_
              have BK358 := n6_
              have BK359 := n7_
              have BK385 := n8_
              have BK389 := n9_
              have HB := n10_
              clear n0_ n1_ n2_ n3_ n4_ n5_ n6_ n7_ n8_ n9_ n10_
              (try clear hb)
              (try clear hb2)
              (try clear hk)
              (try clear hi)
              (try clear ho0)
              refine hK.out _ _ ⟨(kC BK357.out 0).trans rfl, (kC BK357.out 1).trans rfl, (kC BK357.out 2).trans rfl, (kC BK357.out 3).trans rfl, (kC BK357.out 4).trans rfl, (kC BK358.out 0).trans rfl, (kC BK359.out 0).trans rfl, (kC BK359.out 1).trans rfl, (kC BK359.out 2).trans rfl⟩ (fun hHeld => ?_)
              clear hK K
              refine zNo (some 82) ?_
              refine zOn 3 (some 84) HT_ (fun K hK => ?_)
              refine zGo Try.func56 #[.agg #[.slice A1_0 l1_0.length c1_0]] ?_
              with_reducible refine (laws_toCoefs.calls kj42 _ _ l1_0 t424 _ ?side1 ?side2 A104.out).mono ?_
              (case side1 => exact zC (Kd.C_below HR1_0.out HB.out))
              (case side2 => exact HC1_0.out)
              rintro e w115 ⟨v425, rfl, ho0, hb⟩
              refine ⟨_, rfl, ?_⟩
              obtain ⟨N_HO426, hN_HO426⟩ := sepN ho0
              have n0_ := aM (Kd.R_below (by (with_reducible repeat (first | apply Kd.R_alloc | apply Kd.R_drewN | apply Kd.R_drew)); exact HO_8.out) hb)
              have n1_ := aM (Kd.R_below (by (with_reducible repeat (first | apply Kd.R_alloc | apply Kd.R_drewN | apply Kd.R_drew)); exact HO_11.out) hb)
              have n2_ := aM (Kd.R_below (by (with_reducible repeat (first | apply Kd.R_alloc | apply Kd.R_drewN | apply Kd.R_drew)); exact HO_386004.out) hb)
              have n3_ := aM (sepO (by (with_reducible repeat (first | apply Kd.S_alloc | apply Kd.S_drewN | apply Kd.S_drew)); exact HO_390000.out) hN_HO426 hb)
              have n4_ := aM (Kd.R_below (by (with_reducible repeat (first | apply Kd.R_alloc | apply Kd.R_drewN | apply Kd.R_drew)); exact HO423.out) hb)
              have n5_ := aM (Kd.S_lower (sepW (Kd.S_new' (Kd.S_new' ho0 (Kd.R_lt (by (with_reducible repeat (first | apply Kd.R_alloc | apply Kd.R_drewN | apply Kd.R_drew)); exact HO_8.out))) (Kd.R_lt (by (with_reducible repeat (first | apply Kd.R_alloc | apply Kd.R_drewN | apply Kd.R_drew)); exact HO_11.out))) hN_HO426) (below_size zH))
              have n6_ := cB BK357 hb
              have n7_ := cB BK358 hb
              have n8_ := cB BK359 hb
              have n9_ := cB BK385 hb
              have n10_ := cB BK389 hb
              have n11_ := cH HB hb
              clear HO_8
              clear HO_11
              clear HO_386004
              clear HO_390000
              clear HO423
              clear BK357
              clear BK358
              clear BK359
              clear BK385
              clear BK389
              clear HB
              have HO_8 := n0_
              have HO_11 := n1_
              have HO_386004 := n2_
              have HO_390000 := n3_
              have HO423 := n4_
              have HO426 := n5_
              have BK357 := n6_
              have BK358 := n7_
              have BK359 := n8_
              have BK385 := n9_
              have BK389 := n10_
              have HB := n11_
              clear n0_ n1_ n2_ n3_ n4_ n5_ n6_ n7_ n8_ n9_ n10_ n11_
              (try clear hb)
              (try clear hb2)
              (try clear hk)
              (try clear hi)
              (try clear ho0)
              refine hK.out _ _ ⟨(kC BK357.out 0).trans rfl, (kC BK357.out 1).trans rfl, (kC BK357.out 2).trans rfl, (kC BK357.out 3).trans rfl, (kC BK357.out 4).trans rfl, (kC BK358.out 0).trans rfl, (kC BK359.out 0).trans rfl, (kC BK359.out 1).trans rfl, (kC BK359.out 2).trans rfl⟩ (fun hHeld => ?_)
              clear hK K
              refine zNo (some 84) ?_
              refine zOn 5 (some 86) HT_ (fun K hK => ?_)
              refine zGo Try.func67 #[.agg #[.int .i64 a2_0, .int .i64 a2_1, .int .i64 a2_2]] ?_
              with_reducible refine (laws_toPlace.calls a2_0 a2_1 a2_2 t427 t428 t429 _ A105.out).mono ?_
              rintro e w116 ⟨rfl, hb⟩
              refine ⟨_, rfl, ?_⟩
              have n0_ := aM (Kd.R_below (by (with_reducible repeat (first | apply Kd.R_alloc | apply Kd.R_drewN | apply Kd.R_drew)); exact HO_8.out) hb)
              have n1_ := aM (Kd.R_below (by (with_reducible repeat (first | apply Kd.R_alloc | apply Kd.R_drewN | apply Kd.R_drew)); exact HO_11.out) hb)
              have n2_ := aM (Kd.R_below (by (with_reducible repeat (first | apply Kd.R_alloc | apply Kd.R_drewN | apply Kd.R_drew)); exact HO_386004.out) hb)
              have n3_ := aM (Kd.S_below (by (with_reducible repeat (first | apply Kd.S_alloc | apply Kd.S_drewN | apply Kd.S_drew)); exact HO_390000.out) hb)
              have n4_ := aM (Kd.R_below (by (with_reducible repeat (first | apply Kd.R_alloc | apply Kd.R_drewN | apply Kd.R_drew)); exact HO423.out) hb)
              have n5_ := aM (Kd.S_below (by (with_reducible repeat (first | apply Kd.S_alloc | apply Kd.S_drewN | apply Kd.S_drew)); exact HO426.out) hb)
              have n6_ := cB BK357 hb
              have n7_ := cB BK358 hb
              have n8_ := cB BK359 hb
              have n9_ := cB BK385 hb
              have n10_ := cB BK389 hb
              have n11_ := cH HB hb
              clear HO_8
              clear HO_11
              clear HO_386004
              clear HO_390000
              clear HO423
              clear HO426
              clear BK357
              clear BK358
              clear BK359
              clear BK385
              clear BK389
              clear HB
              have HO_8 := n0_
              have HO_11 := n1_
              have HO_386004 := n2_
              have HO_390000 := n3_
              have HO423 := n4_
              have HO426 := n5_
              have BK357 := n6_
              have BK358 := n7_
              have BK359 := n8_
              have BK385 := n9_
              have BK389 := n10_
              have HB := n11_
              clear n0_ n1_ n2_ n3_ n4_ n5_ n6_ n7_ n8_ n9_ n10_ n11_
              (try clear hb)
              (try clear hb2)
              (try clear hk)
              (try clear hi)
              obtain ⟨Ao117, co117, eo117⟩ := Kd.R_slice HO423.out
              (first | subst eo117 | (injection eo117 with f1_ f2_ f3_; have f4_ := f1_.symm; have f5_ := f3_.symm; clear f1_ f2_ f3_; subst f4_; subst f5_))
              obtain ⟨Ao118, co118, eo118⟩ := Kd.S_slice HO426.out
              (first | subst eo118 | (injection eo118 with f1_ f2_ f3_; have f4_ := f1_.symm; have f5_ := f3_.symm; clear f1_ f2_ f3_; subst f4_; subst f5_))
              refine hK.out _ _ ⟨(kC BK357.out 0).trans rfl, (kC BK357.out 1).trans rfl, (kC BK357.out 2).trans rfl, (kC BK357.out 3).trans rfl, (kC BK357.out 4).trans rfl, (kC BK358.out 0).trans rfl, (kC BK359.out 0).trans rfl, (kC BK359.out 1).trans rfl, (kC BK359.out 2).trans rfl⟩ (fun hHeld => ?_)
              clear hK K
              refine zNo (some 86) ?_
              refine zOn 6 (some 87) HT_ (fun K hK => ?_)
              refine zGo Try.func68 #[.agg #[.int .i64 t417, .int .i64 t418, .int .i64 t419, .int .i64 t420, .slice Ao117 t421.length co117], .agg #[.slice Ao118 t424.length co118], .agg #[.int .i64 t427, .int .i64 t428, .int .i64 t429]] ?_
              with_reducible refine (impl_BlockAt.calls kj42 t417 t418 t419 t420 _ _ t421 _ _ t424 t427 t428 t429 t430 _ ?side1 ?side2 ?side3 ?side4 A106.out).mono ?_
              (case side1 => exact zC (Kd.R_reads' HO423.out).2.2)
              (case side2 => exact (Kd.R_reads' HO423.out).2.1)
              (case side3 => exact zC (Kd.S_reads' HO426.out).2.2)
              (case side4 => exact (Kd.S_reads' HO426.out).2.1)
              rintro e w119 ⟨v431, rfl, ho0, hb⟩
              refine ⟨_, rfl, ?_⟩
              have n0_ := aM (Kd.R_elder' (by (with_reducible repeat (first | apply Kd.R_alloc | apply Kd.R_drewN | apply Kd.R_drew)); exact HO_8.out) (Kd.R_base ho0) hb)
              have n1_ := aM (Kd.R_elder' (by (with_reducible repeat (first | apply Kd.R_alloc | apply Kd.R_drewN | apply Kd.R_drew)); exact HO_11.out) (Kd.R_base ho0) hb)
              have n2_ := aM (Kd.R_below (by (with_reducible repeat (first | apply Kd.R_alloc | apply Kd.R_drewN | apply Kd.R_drew)); exact HO_386004.out) hb)
              have n3_ := aM (Kd.S_elder' (by (with_reducible repeat (first | apply Kd.S_alloc | apply Kd.S_drewN | apply Kd.S_drew)); exact HO_390000.out) (Kd.R_base ho0) hb)
              have n4_ := aM (Kd.R_below (by (with_reducible repeat (first | apply Kd.R_alloc | apply Kd.R_drewN | apply Kd.R_drew)); exact HO423.out) hb)
              have n5_ := aM (Kd.S_elder' (by (with_reducible repeat (first | apply Kd.S_alloc | apply Kd.S_drewN | apply Kd.S_drew)); exact HO426.out) (Kd.R_base ho0) hb)
              have n6_ := aM (Kd.R_lower (Kd.R_new' (Kd.R_new' ho0 (Kd.R_lt (by (with_reducible repeat (first | apply Kd.R_alloc | apply Kd.R_drewN | apply Kd.R_drew)); exact HO_8.out))) (Kd.R_lt (by (with_reducible repeat (first | apply Kd.R_alloc | apply Kd.R_drewN | apply Kd.R_drew)); exact HO_11.out))) (below_size zH))
              have n7_ := cB BK357 hb
              have n8_ := cB BK358 hb
              have n9_ := cB BK359 hb
              have n10_ := cB BK385 hb
              have n11_ := cB BK389 hb
              have n12_ := cH HB hb
              clear HO_8
              clear HO_11
              clear HO_386004
              clear HO_390000
              clear HO423
              clear HO426
              clear BK357
              clear BK358
              clear BK359
              clear BK385
              clear BK389
              clear HB
              have HO_8 := n0_
              have HO_11 := n1_
              have HO_386004 := n2_
              have HO_390000 := n3_
              have HO423 := n4_
              have HO426 := n5_
              have HO432 := n6_
              have BK357 := n7_
              have BK358 := n8_
              have BK359 := n9_
              have BK385 := n10_
              have BK389 := n11_
              have HB := n12_
              clear n0_ n1_ n2_ n3_ n4_ n5_ n6_ n7_ n8_ n9_ n10_ n11_ n12_
              (try clear hb)
              (try clear hb2)
              (try clear hk)
              (try clear hi)
              (try clear ho0)
              refine hK.out _ _ ⟨(kC BK357.out 0).trans rfl, (kC BK357.out 1).trans rfl, (kC BK357.out 2).trans rfl, (kC BK357.out 3).trans rfl, (kC BK357.out 4).trans rfl, (kC BK358.out 0).trans rfl, (kC BK359.out 0).trans rfl, (kC BK359.out 1).trans rfl, (kC BK359.out 2).trans rfl⟩ (fun hHeld => ?_)
              clear hK K
              refine zNo (some 87) ?_
              refine zP 7 (some 15) HT_ ?_
              refine done_ (done_of HT_.out (by kernel_rfl)) ?_
              obtain ⟨Ao120, co120, eo120⟩ := Kd.R_slice HO432.out
              subst eo120
              try go_wp2_with (first | ((with_reducible refine gate_callee (f := 20) rfl ?_); refine zGl (some 90) Try.func20 #[.slice Ao120 t430.length co120, .slice Ao83 t375.length co83] ?_; (with_reducible refine (laws_eqIntS.calls kj42 _ _ t430 _ _ t375 true _ ?side1 ?side2 ?side3 ?side4 A107.out).mono ?_); (case side1 => exact zC (Kd.R_reads' HO432.out).2.2); (case side2 => exact (Kd.R_reads' HO432.out).2.1); (case side3 => exact zC (Kd.R_reads' HO_8.out).2.2); (case side4 => exact (Kd.R_reads' HO_8.out).2.1); rintro e w' ⟨rfl, ⟨nd, rfl⟩⟩; refine ⟨_, rfl, ?_⟩) | ((with_reducible refine gate_callee (f := 24) rfl ?_); refine goesL_ (some 94) rfl rfl Try.func24 (by kernel_rfl) rfl #[.slice Ao82 t415.length co82, .int .i64 1] rfl (by (try simp only [List.map_toArray, List.map_cons, List.map_nil]); first | done | (rw [show t415.length = t393.length from (Kd.R_reads' HO_11.out).1.symm] <;> rfl) | rfl | (simp only [List.length_drop, List.length_take]; rfl)) ?_; (with_reducible refine (laws_heldIntS.calls kj42 _ _ t415 1 t434 _ ?side1 ?side2 A109.out).mono ?_); (case side1 => exact zC (Kd.R_reads' HO_11.out).2.2); (case side2 => rw [show t415.length = t393.length from (Kd.R_reads' HO_11.out).1.symm]; exact (Kd.R_reads' HO_11.out).2.1); rintro e w' ⟨rfl, ⟨nd, rfl⟩⟩; refine ⟨_, rfl, ?_⟩))
              go_ret
              exact ⟨zR, zH⟩
             ·rw [if_neg c111] at H
              have c111b0 : (t434 == t414) = false := beq_eq_false_iff_ne.mpr c111
              have c111b1 : (t434 != t414) = true := bne_iff_ne.mpr c111
              exact noArm H HTRUE_.out
           ·replace c108 := Bool.eq_false_iff.mpr c108
            subst c108
            replace H := iF H
            exact noArm H HTRUE_.out
          ·rw [if_neg c102] at H
           have c102b0 : (t416 == t414) = false := beq_eq_false_iff_ne.mpr c102
           have c102b1 : (t416 != t414) = true := bne_iff_ne.mpr c102
           exact noArm H HTRUE_.out
     ·replace c40 := Bool.eq_false_iff.mpr c40
      subst c40
      replace H := iF H
      exact noArm H HTRUE_.out
    ·replace c37 := Bool.eq_false_iff.mpr c37
     subst c37
     replace H := iF H
     exact noArm H HTRUE_.out
   ·replace c34 := Bool.eq_false_iff.mpr c34
    subst c34
    replace H := iF H
    exact noArm H HTRUE_.out

def wf130 (x : S130) : Prop := (Lit.int .i64 x.f0).wf = true ∧ (Lit.int .i64 x.f1).wf = true ∧ (Lit.int .i64 x.f2).wf = true ∧ (Lit.int .i64 x.f3).wf = true
theorem op130 : Op.Opens Try.prog 130 k130 wf130 := Op.opens_mono (Op.opens_struct (fun x_ => ⟨x_.1, x_.2.1, x_.2.2.1, x_.2.2.2⟩) (fun _ => rfl) Try.underlying130 (by kernel_rfl) (Op.opensF_cons rfl (by kernel_rfl) (Op.opens_int Try.underlying3) (Op.opensF_cons rfl (by kernel_rfl) (Op.opens_int Try.underlying3) (Op.opensF_cons rfl (by kernel_rfl) (Op.opens_int Try.underlying3) (Op.opensF_last rfl (by kernel_rfl) (Op.opens_int Try.underlying3)))))) (fun _ h_ => h_)
def wf55 (x : S55) : Prop := (Lit.int .i64 x.f0).wf = true ∧ (Lit.int .i64 x.f1).wf = true ∧ (Lit.int .i64 x.f2).wf = true ∧ (Lit.int .i64 x.f3).wf = true ∧ ((x.f4).length ≤ maxLen ∧ ∀ y_12 ∈ (x.f4), wf130 y_12)
theorem op55 : Op.Opens Try.prog 55 k55 wf55 := Op.opens_mono (Op.opens_struct (fun x_ => ⟨x_.1, x_.2.1, x_.2.2.1, x_.2.2.2.1, x_.2.2.2.2⟩) (fun _ => rfl) Try.underlying55 (by kernel_rfl) (Op.opensF_cons rfl (by kernel_rfl) (Op.opens_int Try.underlying3) (Op.opensF_cons rfl (by kernel_rfl) (Op.opens_int Try.underlying3) (Op.opensF_cons rfl (by kernel_rfl) (Op.opens_int Try.underlying3) (Op.opensF_cons rfl (by kernel_rfl) (Op.opens_int Try.underlying3) (Op.opensF_last rfl (by kernel_rfl) (Op.opens_slice Try.underlying53 (by kernel_rfl) op130))))))) (fun _ h_ => h_)
def wf72 (x : S72) : Prop := ((x.f0).length ≤ maxLen ∧ ∀ y_17 ∈ (x.f0), (y_17.length ≤ maxLen ∧ ∀ y_12 ∈ y_17, (y_12.length ≤ maxLen ∧ ∀ y_7 ∈ y_12, (Lit.int .i64 y_7).wf = true)))
theorem op72 : Op.Opens Try.prog 72 k72 wf72 := Op.opens_mono (Op.opens_struct (fun x_ => ⟨x_⟩) (fun _ => rfl) Try.underlying72 (by kernel_rfl) (Op.opensF_last rfl (by kernel_rfl) (Op.opens_slice Try.underlying61 (by kernel_rfl) (Op.opens_slice Try.underlying49 (by kernel_rfl) (Op.opens_slice Try.underlying22 (by kernel_rfl) (Op.opens_int Try.underlying3)))))) (fun _ h_ => h_)
def wf85 (x : S85) : Prop := (Lit.int .i64 x.f0).wf = true ∧ (Lit.int .i64 x.f1).wf = true ∧ (Lit.int .i64 x.f2).wf = true
theorem op85 : Op.Opens Try.prog 85 k85 wf85 := Op.opens_mono (Op.opens_struct (fun x_ => ⟨x_.1, x_.2.1, x_.2.2⟩) (fun _ => rfl) Try.underlying85 (by kernel_rfl) (Op.opensF_cons rfl (by kernel_rfl) (Op.opens_int Try.underlying3) (Op.opensF_cons rfl (by kernel_rfl) (Op.opens_int Try.underlying3) (Op.opensF_last rfl (by kernel_rfl) (Op.opens_int Try.underlying3))))) (fun _ h_ => h_)
/-- The one pure statement of laws_FnExactBlockAt. -/
def laws_FnExactBlockAt.Pure : Prop := ∀ (a0_0 : Int) (a0_1 : Int) (a0_2 : Int) (a0_3 : Int) (l0_4 : List (S130)) (l1_0 : List (List (List Int))) (a2_0 : Int) (a2_1 : Int) (a2_2 : Int), (Lit.int .i64 a0_0).wf = true → (Lit.int .i64 a0_1).wf = true → (Lit.int .i64 a0_2).wf = true → (Lit.int .i64 a0_3).wf = true → (l0_4.length ≤ maxLen ∧ ∀ y_12 ∈ l0_4, wf130 y_12) → (l1_0.length ≤ maxLen ∧ ∀ y_17 ∈ l1_0, (y_17.length ≤ maxLen ∧ ∀ y_12 ∈ y_17, (y_12.length ≤ maxLen ∧ ∀ y_7 ∈ y_12, (Lit.int .i64 y_7).wf = true))) → (Lit.int .i64 a2_0).wf = true → (Lit.int .i64 a2_1).wf = true → (Lit.int .i64 a2_2).wf = true → ∃ k, laws_FnExactBlockAt.f k a0_0 a0_1 a0_2 a0_3 l0_4 l1_0 a2_0 a2_1 a2_2 = some true
theorem laws_FnExactBlockAt.walk (P : laws_FnExactBlockAt.Pure) (a0_0 : Int) (a0_1 : Int) (a0_2 : Int) (a0_3 : Int) (A0_4 : Option Addr) (c0_4 : Nat) (l0_4 : List (S130)) (A1_0 : Option Addr) (c1_0 : Nat) (l1_0 : List (List (List Int))) (a2_0 : Int) (a2_1 : Int) (a2_2 : Int) (w : World) (hr0_4 : Kd.C k130 w A0_4 l0_4.length l0_4) (hc0_4 : l0_4.length ≤ c0_4) (hr1_0 : Kd.C (Kd.slice 22 (Kd.slice 3 (Kd.int .i64))) w A1_0 l1_0.length l1_0) (hc1_0 : l1_0.length ≤ c1_0) (qa0_0 : (Lit.int .i64 a0_0).wf = true) (qa0_1 : (Lit.int .i64 a0_1).wf = true) (qa0_2 : (Lit.int .i64 a0_2).wf = true) (qa0_3 : (Lit.int .i64 a0_3).wf = true) (ql0_4 : (l0_4.length ≤ maxLen ∧ ∀ y_12 ∈ l0_4, wf130 y_12)) (ql1_0 : (l1_0.length ≤ maxLen ∧ ∀ y_17 ∈ l1_0, (y_17.length ≤ maxLen ∧ ∀ y_12 ∈ y_17, (y_12.length ≤ maxLen ∧ ∀ y_7 ∈ y_12, (Lit.int .i64 y_7).wf = true)))) (qa2_0 : (Lit.int .i64 a2_0).wf = true) (qa2_1 : (Lit.int .i64 a2_1).wf = true) (qa2_2 : (Lit.int .i64 a2_2).wf = true) :
    Calls Try.prog 14 #[.agg #[.int .i64 a0_0, .int .i64 a0_1, .int .i64 a0_2, .int .i64 a0_3, .slice A0_4 l0_4.length c0_4], .agg #[.slice A1_0 l1_0.length c1_0], .agg #[.int .i64 a2_0, .int .i64 a2_1, .int .i64 a2_2]] w fun e w' => e = .returned (.bool true) ∧ Below w.heap.size w w' := by
  obtain ⟨k, h⟩ := P a0_0 a0_1 a0_2 a0_3 l0_4 l1_0 a2_0 a2_1 a2_2 qa0_0 qa0_1 qa0_2 qa0_3 ql0_4 ql1_0 qa2_0 qa2_1 qa2_2
  refine (laws_FnExactBlockAt.calls k a0_0 a0_1 a0_2 a0_3 A0_4 c0_4 l0_4 A1_0 c1_0 l1_0 a2_0 a2_1 a2_2 true w hr0_4 hc0_4 hr1_0 hc1_0 ⟨rfl⟩ h).mono ?_
  rintro e w' ⟨rfl, hd⟩
  exact ⟨rfl, hd⟩

end Go.Proofs.Ythajjjpblkhmmaa.CB
