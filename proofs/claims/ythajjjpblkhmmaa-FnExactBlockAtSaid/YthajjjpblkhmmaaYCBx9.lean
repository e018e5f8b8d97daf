/- Functions that a law of this seat reaches: written by a program of this session (wip/xprint.py), and by hand. -/
import Derived.Test.YthajjjpblkhmmaaYMac
import Derived.Test.YthajjjpblkhmmaaYCBx0
import Derived.Test.YthajjjpblkhmmaaYCBx2
import Derived.Test.YthajjjpblkhmmaaYCBx3
import Derived.Test.YthajjjpblkhmmaaYCBx5
import Derived.Test.YthajjjpblkhmmaaYCBx7
import Derived.Test.YthajjjpblkhmmaaYCBx8
namespace Go.Proofs.Ythajjjpblkhmmaa.CB
open Go.RowKit Go.Proofs.Ythajjjpblkhmmaa.B Go.Proofs.YthajjjpblkhmmaaW.PrintWords Go.Proofs.YthajjjpblkhmmaaW.PrintLast Go.Proofs.YthajjjpblkhmmaaW.PrintMore
attribute [local go_sem] max2_int min2_int max_two min_two max_three min_three max_four min_four   -- for this text's walks alone
set_option linter.unusedVariables false
set_option linter.unusedSimpArgs false

def blockB (w h : Int) (l : List S42) (i wide k : Int) (b : List Int) : Bool := numsB b (-16383) 16383 && (!(hiddenB w h l i (wrap64 (Int.tdiv k wide)) (Int.tmod k wide)) || allR b 0 0)
def planeB3 (w h : Int) (l : List S42) (i wide : Int) (P : List (List Int)) : Nat → Nat → Bool
  | 0, _ => true
  | d + 1, k => blockB w h l i wide k (rd_L3 P (k : Int)) && planeB3 w h l i wide P d (k + 1)
def planesB (w h : Int) (l : List S42) (c : List (List (List Int))) : Nat → Nat → Bool
  | 0, _ => true
  | d + 1, i => decide (((rd_L4 c (i : Int)).length : Int) = wrap64 ((blocksI w h l i).1 * (blocksI w h l i).2)) && (planeB3 w h l i (blocksI w h l i).1 (rd_L4 c (i : Int)) (rd_L4 c (i : Int)).length 0 && planesB w h l c d (i + 1))
def coefsB (p w h r : Int) (l : List S42) (c : List (List (List Int))) : Bool := frameB p w h r l && (decide ((c.length : Int) = (l.length : Int)) && planesB w h l c c.length 0)
theorem sCoefs_l1 {p w h r : Int} {l : List S42} (hl : l.length ≤ 1048576) (hb : frameB p w h r l = true) (c : List (List (List Int))) (i : Nat) (hi : i < c.length) (hil : i < l.length) (P : List (List Int)) (hP : rd_L4 c (i : Int) = P) (hPl : P.length ≤ 1048576)
    (A B : Int) (hlen : (P.length : Int) = wrap64 (A * B)) (R : Bool) (hR : Ev (fun n => spec_CoefsOk.l0 n (wrap64 ((i : Int) + 1)) p w h r l c) R) :
    ∀ (d k : Nat), k + d = P.length → Ev (fun n => spec_CoefsOk.l1 n i A B k p w h r l c) (planeB3 w h l i A P d k && R) := by
  intro d
  induction d with
  | zero =>
    intro k hk
    refine Ev.step (fun n => by rw [spec_CoefsOk.l1]) (evNeg (by omega) ?_)
    rw [planeB3, Bool.true_and]
    exact hR
  | succ d ih =>
    intro k hk
    have hA : ¬ A = 0 := fun e => by rw [e, Int.zero_mul, show wrap64 0 = 0 from w64 (by omega) (by omega)] at hlen; omega
    have hkl : k < P.length := by omega
    refine Ev.step (fun n => by rw [spec_CoefsOk.l1]) (evPos (by omega) (evPos (by omega) (evPos (by omega) (evPos (by omega) ?_))))
    rw [hP]
    refine evPos (by omega) ?_
    rw [planeB3]
    unfold blockB
    refine evBind (sLevel_f _) (evIf (fun h1 => ?_) (fun h1 => by rw [Bool.eq_false_iff.2 h1]; exact Ev.now _))
    rw [h1, Bool.true_and]
    refine evNeg hA (evBind (sHidden_f hl hb i _ _ (by omega) (by omega)) ?_)
    have hn := ih (k + 1) (by omega)
    rw [w64 (x := (k : Int) + 1) (by omega) (by omega)]
    refine evIf (fun h2 => ?_) (fun h2 => ?_)
    · rw [h2]
      refine evBind (sZero_f _ (by have := nums_len h1; omega)) (evIf (fun h3 => ?_) (fun h3 => ?_))
      · rw [h3]; simpa using hn
      · rw [Bool.eq_false_iff.2 h3]; exact Ev.now _
    · rw [Bool.eq_false_iff.2 h2]; simpa using hn
theorem sCoefs_l0 {p w h r : Int} {l : List S42} (hl : l.length ≤ 1048576) (hb : frameB p w h r l = true) (c : List (List (List Int))) (hc : c.length = l.length) (hx : ∀ x ∈ c, BndS 1048576 x) :
    ∀ (d i : Nat), i + d = c.length → Ev (fun n => spec_CoefsOk.l0 n i p w h r l c) (planesB w h l c d i) := by
  intro d
  induction d with
  | zero =>
    intro i hi
    refine Ev.step (fun n => by rw [spec_CoefsOk.l0]) (evNeg (by omega) ?_)
    exact Ev.now _
  | succ d ih =>
    intro i hi
    have hic : i < c.length := by omega
    refine Ev.step (fun n => by rw [spec_CoefsOk.l0]) (evPos (by omega) ?_)
    refine evBind (sBlocks_f hl hb i (by omega) (by omega)) (evPos (by omega) ?_)
    rw [planesB]
    refine evIf (fun h1 => ?_) (fun h1 => by rw [decide_eq_false h1]; exact Ev.now _)
    rw [decide_eq_true h1, Bool.true_and]
    refine sCoefs_l1 hl hb c i hic (by omega) _ rfl ?_ _ _ h1 _ ?_ _ 0 (by omega)
    · rw [rdSSS_nat hic]
      have := (hx _ (List.getElem_mem hic)).1
      omega
    · rw [w64 (by omega) (by omega)]
      exact ih (i + 1) (by omega)
theorem sCoefsOk_f (p w h r : Int) (l : List S42) (hl : l.length ≤ 1048576) (c : List (List (List Int))) (hx : ∀ x ∈ c, BndS 1048576 x) : Ev (fun n => spec_CoefsOk.f n p w h r l c) (coefsB p w h r l c) := by
  unfold spec_CoefsOk.f coefsB
  refine evBind (sFrameOk_f p w h r l hl) (evIf (fun hb => ?_) (fun hb => ?_))
  · rw [hb, Bool.true_and]
    by_cases he : (c.length : Int) = (l.length : Int)
    · rw [decide_eq_true he, Bool.true_and, show ((c.length : Int) != (l.length : Int)) = false from by simp [he]]
      refine Ev.step (fun k => by rw [spec_CoefsOk.j0]) (evNeg (by simp) ?_)
      exact sCoefs_l0 hl hb c (by omega) hx c.length 0 (by omega)
    · rw [decide_eq_false he, Bool.false_and, show ((c.length : Int) != (l.length : Int)) = true from by simp [he]]
      refine Ev.step (fun k => by rw [spec_CoefsOk.j0]) (evPos rfl ?_)
      exact Ev.now _
  · rw [Bool.eq_false_iff.2 hb, Bool.false_and]
    refine Ev.step (fun k => by rw [spec_CoefsOk.j0]) (evPos rfl ?_)
    exact Ev.now _

/-! ### spec_l11Place: function 114 -/
def spec_l11Place.f (k : Nat) (a0_0 : Int) (a0_1 : Int) (a0_2 : Int) (a0_3 : Int) (l0_4 : List (S42)) (a1_0 : Int) (a1_1 : Int) (a1_2 : Int) : Option (Int × Bool) := (spec_l01Between.f a1_0 0 (wrap64 ((l0_4.length : Int) - 1))).bind fun t240 => (if t240 = true then ((spec_l04Blocks.f k a0_0 a0_1 a0_2 a0_3 l0_4 a1_0).bind fun bt241 => ((spec_l01Between.f a1_1 0 (wrap64 (bt241.2 - 1))).bind fun t243 => (if t243 = true then ((spec_l01Between.f a1_2 0 (wrap64 (bt241.1 - 1))).bind fun t244 => (if t244 = true then (some (wrap64 ((wrap64 (a1_1 * bt241.1)) + a1_2), true)) else (some (0, false)))) else (some (0, false))))) else (some (0, false)))
set_option maxHeartbeats 8000000 in
set_option maxRecDepth 100000 in
theorem spec_l11Place.calls (k : Nat) (a0_0 : Int) (a0_1 : Int) (a0_2 : Int) (a0_3 : Int) (A0_4 : Option Addr) (c0_4 : Nat) (l0_4 : List (S42)) (a1_0 : Int) (a1_1 : Int) (a1_2 : Int) (r1 : Int) (r2 : Bool) (w : World) (hr0_4 : Kd.C k42 w A0_4 l0_4.length l0_4) (hc0_4 : l0_4.length ≤ c0_4) (h : spec_l11Place.f k a0_0 a0_1 a0_2 a0_3 l0_4 a1_0 a1_1 a1_2 = some (r1, r2)) :
  Calls Try.prog 114 #[.agg #[.int .i64 a0_0, .int .i64 a0_1, .int .i64 a0_2, .int .i64 a0_3, .slice A0_4 l0_4.length c0_4], .agg #[.int .i64 a1_0, .int .i64 a1_1, .int .i64 a1_2]] w fun e w' => e = .returned (.tuple #[.int .i64 r1, .bool r2]) ∧ Below w.heap.size w w' := by
 have hu45 := Try.underlying45
 have hu87 := Try.underlying87
 have HR0_4 := aM hr0_4
 have HC0_4 := aM hc0_4
 clear hr0_4 hc0_4
 have HB := aM (Below.refl w.heap.size w)
 have H : ((spec_l01Between.f a1_0 0 (wrap64 ((l0_4.length : Int) - 1))).bind fun t240 => (if t240 = true then ((spec_l04Blocks.f k a0_0 a0_1 a0_2 a0_3 l0_4 a1_0).bind fun bt241 => ((spec_l01Between.f a1_1 0 (wrap64 (bt241.2 - 1))).bind fun t243 => (if t243 = true then ((spec_l01Between.f a1_2 0 (wrap64 (bt241.1 - 1))).bind fun t244 => (if t244 = true then (some (wrap64 ((wrap64 (a1_1 * bt241.1)) + a1_2), true)) else (some (0, false)))) else (some (0, false))))) else (some (0, false)))) = some (r1, r2) := h
 clear h
 obtain ⟨t240, A3, H⟩ := oH H
 by_cases c4 : t240 = true
 ·subst c4
  replace H := iT H
  replace H := oB H
  obtain ⟨⟨t241, t242⟩, A50, H⟩ := H
  replace H : ((spec_l01Between.f a1_1 0 (wrap64 (t242 - 1))).bind fun t243 => (if t243 = true then ((spec_l01Between.f a1_2 0 (wrap64 (t241 - 1))).bind fun t244 => (if t244 = true then (some (wrap64 ((wrap64 (a1_1 * t241)) + a1_2), true)) else (some (0, false)))) else (some (0, false)))) = some (r1, r2) := H
  have A5 := aM A50
  clear A50
  obtain ⟨t243, A6, H⟩ := oH H
  by_cases c7 : t243 = true
  ·subst c7
   replace H := iT H
   obtain ⟨t244, A8, H⟩ := oH H
   by_cases c9 : t244 = true
   ·subst c9
    replace H := iT H
    simp only [Option.some.injEq, Prod.mk.injEq] at H
    obtain ⟨rfl, rfl⟩ := H
    go_enter Try.func114, Try.ntmps114
    go_wp2_with (first | ((with_reducible refine gate_dst (N := 2) rfl ?_); refine box_event ?hg (N := 2) ?hd (cs := #[.int .i64 a0_0, .int .i64 a0_1, .int .i64 a0_2, .int .i64 a0_3, .slice A0_4 l0_4.length c0_4]) (t := 45) ?hr ?_; (case hd => rfl); (case hg => rfl); (case hr => first | (go_simp; done) | (go_simp; rfl)); intro gb238 hg w10 hbox hb; have BK238 := aM hbox; have GW238 := aM (zG hg : w.heap.size ≤ gb238); have GE238 := aM (zG hg : w.heap.size ≤ gb238); replace HB := cH HB hb; clear hb hbox hg) | ((with_reducible refine gate_dst (N := 3) rfl ?_); refine box_event ?hg (N := 3) ?hd (cs := #[.int .i64 a1_0, .int .i64 a1_1, .int .i64 a1_2]) (t := 87) ?hr ?_; (case hd => rfl); (case hg => rfl); (case hr => first | (go_simp; done) | (go_simp; rfl)); intro gb239 hg w11 hbox hb; have BK239 := aM hbox; have GW239 := aM (zG hg : w.heap.size ≤ gb239); have GE239 := aM (zG hg : w.heap.size ≤ gb239); replace HB := cH HB hb; have NB238_239 := aM ((zL hg BK238)); have NB239_238 := aM ((zM hg BK238)); replace BK238 := cB BK238 hb; clear hb hbox hg; have hnb12 := NB239_238.out; have hnc12 := NB238_239.out; obtain ⟨hcz13_0, hcz13_1, hcz13_2⟩ := kk3 BK239; obtain ⟨hfz13_0, hfz13_1, hfz13_2⟩ := kg3 BK239; obtain ⟨hcz14_0, hcz14_1, hcz14_2, hcz14_3, hcz14_4⟩ := kk5 BK238; obtain ⟨hfz14_0, hfz14_1, hfz14_2, hfz14_3, hfz14_4⟩ := kg5 BK238) | ((with_reducible refine gate_callee (f := 76) rfl ?_); refine zGl (some 14) Try.func76 #[.int .i64 a1_0, .int .i64 0, .int .i64 (wrap64 ((l0_4.length : Int) - 1))] ?_; (with_reducible refine (spec_l01Between.calls a1_0 0 (wrap64 ((l0_4.length : Int) - 1)) true _ A3.out).mono ?_); rintro e w' ⟨rfl, ⟨nd, rfl⟩⟩; refine ⟨_, rfl, ?_⟩) | (go_at_call 95; (with_reducible refine (spec_l04Blocks.calls k a0_0 a0_1 a0_2 a0_3 _ _ l0_4 a1_0 t241 t242 _ ?side1 ?side2 A5.out).mono ?_); (case side1 => exact zC (Kd.C_below HR0_4.out zH)); (case side2 => exact HC0_4.out); rintro e w15 ⟨rfl, hb⟩; replace BK238 := cB BK238 hb; replace BK239 := cB BK239 hb; replace HB := cH HB hb; (try clear hb); obtain ⟨hcz16_0, hcz16_1, hcz16_2⟩ := kk3 BK239; obtain ⟨hfz16_0, hfz16_1, hfz16_2⟩ := kg3 BK239) | ((with_reducible refine gate_callee (f := 76) rfl ?_); refine zGl (some 27) Try.func76 #[.int .i64 a1_1, .int .i64 0, .int .i64 (wrap64 (t242 - 1))] ?_; (with_reducible refine (spec_l01Between.calls a1_1 0 (wrap64 (t242 - 1)) true _ A6.out).mono ?_); rintro e w' ⟨rfl, ⟨nd, rfl⟩⟩; refine ⟨_, rfl, ?_⟩) | (go_at_call 76; (with_reducible refine (spec_l01Between.calls a1_2 0 (wrap64 (t241 - 1)) true _ A8.out).mono ?_); rintro e w' ⟨rfl, ⟨nd, rfl⟩⟩))
    go_ret2
    exact ⟨zR, zH⟩
   ·replace c9 := Bool.eq_false_iff.mpr c9
    subst c9
    replace H := iF H
    simp only [Option.some.injEq, Prod.mk.injEq] at H
    obtain ⟨rfl, rfl⟩ := H
    go_enter Try.func114, Try.ntmps114
    go_wp2_with (first | ((with_reducible refine gate_dst (N := 2) rfl ?_); refine box_event ?hg (N := 2) ?hd (cs := #[.int .i64 a0_0, .int .i64 a0_1, .int .i64 a0_2, .int .i64 a0_3, .slice A0_4 l0_4.length c0_4]) (t := 45) ?hr ?_; (case hd => rfl); (case hg => rfl); (case hr => first | (go_simp; done) | (go_simp; rfl)); intro gb238 hg w17 hbox hb; have BK238 := aM hbox; have GW238 := aM (zG hg : w.heap.size ≤ gb238); have GE238 := aM (zG hg : w.heap.size ≤ gb238); replace HB := cH HB hb; clear hb hbox hg) | ((with_reducible refine gate_dst (N := 3) rfl ?_); refine box_event ?hg (N := 3) ?hd (cs := #[.int .i64 a1_0, .int .i64 a1_1, .int .i64 a1_2]) (t := 87) ?hr ?_; (case hd => rfl); (case hg => rfl); (case hr => first | (go_simp; done) | (go_simp; rfl)); intro gb239 hg w18 hbox hb; have BK239 := aM hbox; have GW239 := aM (zG hg : w.heap.size ≤ gb239); have GE239 := aM (zG hg : w.heap.size ≤ gb239); replace HB := cH HB hb; have NB238_239 := aM ((zL hg BK238)); have NB239_238 := aM ((zM hg BK238)); replace BK238 := cB BK238 hb; clear hb hbox hg; have hnb19 := NB239_238.out; have hnc19 := NB238_239.out; obtain ⟨hcz20_0, hcz20_1, hcz20_2⟩ := kk3 BK239; obtain ⟨hfz20_0, hfz20_1, hfz20_2⟩ := kg3 BK239; obtain ⟨hcz21_0, hcz21_1, hcz21_2, hcz21_3, hcz21_4⟩ := kk5 BK238; obtain ⟨hfz21_0, hfz21_1, hfz21_2, hfz21_3, hfz21_4⟩ := kg5 BK238) | ((with_reducible refine gate_callee (f := 76) rfl ?_); refine zGl (some 14) Try.func76 #[.int .i64 a1_0, .int .i64 0, .int .i64 (wrap64 ((l0_4.length : Int) - 1))] ?_; (with_reducible refine (spec_l01Between.calls a1_0 0 (wrap64 ((l0_4.length : Int) - 1)) true _ A3.out).mono ?_); rintro e w' ⟨rfl, ⟨nd, rfl⟩⟩; refine ⟨_, rfl, ?_⟩) | (go_at_call 95; (with_reducible refine (spec_l04Blocks.calls k a0_0 a0_1 a0_2 a0_3 _ _ l0_4 a1_0 t241 t242 _ ?side1 ?side2 A5.out).mono ?_); (case side1 => exact zC (Kd.C_below HR0_4.out zH)); (case side2 => exact HC0_4.out); rintro e w22 ⟨rfl, hb⟩; replace BK238 := cB BK238 hb; replace BK239 := cB BK239 hb; replace HB := cH HB hb; (try clear hb); obtain ⟨hcz23_0, hcz23_1, hcz23_2⟩ := kk3 BK239; obtain ⟨hfz23_0, hfz23_1, hfz23_2⟩ := kg3 BK239) | ((with_reducible refine gate_callee (f := 76) rfl ?_); refine zGl (some 27) Try.func76 #[.int .i64 a1_1, .int .i64 0, .int .i64 (wrap64 (t242 - 1))] ?_; (with_reducible refine (spec_l01Between.calls a1_1 0 (wrap64 (t242 - 1)) true _ A6.out).mono ?_); rintro e w' ⟨rfl, ⟨nd, rfl⟩⟩; refine ⟨_, rfl, ?_⟩) | (go_at_call 76; (with_reducible refine (spec_l01Between.calls a1_2 0 (wrap64 (t241 - 1)) false _ A8.out).mono ?_); rintro e w' ⟨rfl, ⟨nd, rfl⟩⟩))
    go_ret2
    exact ⟨zR, zH⟩
  ·replace c7 := Bool.eq_false_iff.mpr c7
   subst c7
   replace H := iF H
   simp only [Option.some.injEq, Prod.mk.injEq] at H
   obtain ⟨rfl, rfl⟩ := H
   go_enter Try.func114, Try.ntmps114
   go_wp2_with (first | ((with_reducible refine gate_dst (N := 2) rfl ?_); refine box_event ?hg (N := 2) ?hd (cs := #[.int .i64 a0_0, .int .i64 a0_1, .int .i64 a0_2, .int .i64 a0_3, .slice A0_4 l0_4.length c0_4]) (t := 45) ?hr ?_; (case hd => rfl); (case hg => rfl); (case hr => first | (go_simp; done) | (go_simp; rfl)); intro gb238 hg w24 hbox hb; have BK238 := aM hbox; have GW238 := aM (zG hg : w.heap.size ≤ gb238); have GE238 := aM (zG hg : w.heap.size ≤ gb238); replace HB := cH HB hb; clear hb hbox hg) | ((with_reducible refine gate_dst (N := 3) rfl ?_); refine box_event ?hg (N := 3) ?hd (cs := #[.int .i64 a1_0, .int .i64 a1_1, .int .i64 a1_2]) (t := 87) ?hr ?_; (case hd => rfl); (case hg => rfl); (case hr => first | (go_simp; done) | (go_simp; rfl)); intro gb239 hg w25 hbox hb; have BK239 := aM hbox; have GW239 := aM (zG hg : w.heap.size ≤ gb239); have GE239 := aM (zG hg : w.heap.size ≤ gb239); replace HB := cH HB hb; have NB238_239 := aM ((zL hg BK238)); have NB239_238 := aM ((zM hg BK238)); replace BK238 := cB BK238 hb; clear hb hbox hg; have hnb26 := NB239_238.out; have hnc26 := NB238_239.out; obtain ⟨hcz27_0, hcz27_1, hcz27_2⟩ := kk3 BK239; obtain ⟨hfz27_0, hfz27_1, hfz27_2⟩ := kg3 BK239; obtain ⟨hcz28_0, hcz28_1, hcz28_2, hcz28_3, hcz28_4⟩ := kk5 BK238; obtain ⟨hfz28_0, hfz28_1, hfz28_2, hfz28_3, hfz28_4⟩ := kg5 BK238) | ((with_reducible refine gate_callee (f := 76) rfl ?_); refine zGl (some 14) Try.func76 #[.int .i64 a1_0, .int .i64 0, .int .i64 (wrap64 ((l0_4.length : Int) - 1))] ?_; (with_reducible refine (spec_l01Between.calls a1_0 0 (wrap64 ((l0_4.length : Int) - 1)) true _ A3.out).mono ?_); rintro e w' ⟨rfl, ⟨nd, rfl⟩⟩; refine ⟨_, rfl, ?_⟩) | (go_at_call 95; (with_reducible refine (spec_l04Blocks.calls k a0_0 a0_1 a0_2 a0_3 _ _ l0_4 a1_0 t241 t242 _ ?side1 ?side2 A5.out).mono ?_); (case side1 => exact zC (Kd.C_below HR0_4.out zH)); (case side2 => exact HC0_4.out); rintro e w29 ⟨rfl, hb⟩; replace BK238 := cB BK238 hb; replace BK239 := cB BK239 hb; replace HB := cH HB hb; (try clear hb); obtain ⟨hcz30_0, hcz30_1, hcz30_2⟩ := kk3 BK239; obtain ⟨hfz30_0, hfz30_1, hfz30_2⟩ := kg3 BK239) | ((with_reducible refine gate_callee (f := 76) rfl ?_); refine zGl (some 27) Try.func76 #[.int .i64 a1_1, .int .i64 0, .int .i64 (wrap64 (t242 - 1))] ?_; (with_reducible refine (spec_l01Between.calls a1_1 0 (wrap64 (t242 - 1)) false _ A6.out).mono ?_); rintro e w' ⟨rfl, ⟨nd, rfl⟩⟩; refine ⟨_, rfl, ?_⟩))
   go_ret2
   exact ⟨zR, zH⟩
 ·replace c4 := Bool.eq_false_iff.mpr c4
  subst c4
  replace H := iF H
  simp only [Option.some.injEq, Prod.mk.injEq] at H
  obtain ⟨rfl, rfl⟩ := H
  go_enter Try.func114, Try.ntmps114
  go_wp2_with (first | ((with_reducible refine gate_dst (N := 2) rfl ?_); refine box_event ?hg (N := 2) ?hd (cs := #[.int .i64 a0_0, .int .i64 a0_1, .int .i64 a0_2, .int .i64 a0_3, .slice A0_4 l0_4.length c0_4]) (t := 45) ?hr ?_; (case hd => rfl); (case hg => rfl); (case hr => first | (go_simp; done) | (go_simp; rfl)); intro gb238 hg w31 hbox hb; have BK238 := aM hbox; have GW238 := aM (zG hg : w.heap.size ≤ gb238); have GE238 := aM (zG hg : w.heap.size ≤ gb238); replace HB := cH HB hb; clear hb hbox hg) | ((with_reducible refine gate_dst (N := 3) rfl ?_); refine box_event ?hg (N := 3) ?hd (cs := #[.int .i64 a1_0, .int .i64 a1_1, .int .i64 a1_2]) (t := 87) ?hr ?_; (case hd => rfl); (case hg => rfl); (case hr => first | (go_simp; done) | (go_simp; rfl)); intro gb239 hg w32 hbox hb; have BK239 := aM hbox; have GW239 := aM (zG hg : w.heap.size ≤ gb239); have GE239 := aM (zG hg : w.heap.size ≤ gb239); replace HB := cH HB hb; have NB238_239 := aM ((zL hg BK238)); have NB239_238 := aM ((zM hg BK238)); replace BK238 := cB BK238 hb; clear hb hbox hg; have hnb33 := NB239_238.out; have hnc33 := NB238_239.out; obtain ⟨hcz34_0, hcz34_1, hcz34_2⟩ := kk3 BK239; obtain ⟨hfz34_0, hfz34_1, hfz34_2⟩ := kg3 BK239; obtain ⟨hcz35_0, hcz35_1, hcz35_2, hcz35_3, hcz35_4⟩ := kk5 BK238; obtain ⟨hfz35_0, hfz35_1, hfz35_2, hfz35_3, hfz35_4⟩ := kg5 BK238) | ((with_reducible refine gate_callee (f := 76) rfl ?_); refine zGl (some 14) Try.func76 #[.int .i64 a1_0, .int .i64 0, .int .i64 (wrap64 ((l0_4.length : Int) - 1))] ?_; (with_reducible refine (spec_l01Between.calls a1_0 0 (wrap64 ((l0_4.length : Int) - 1)) false _ A3.out).mono ?_); rintro e w' ⟨rfl, ⟨nd, rfl⟩⟩; refine ⟨_, rfl, ?_⟩))
  go_ret2
  exact ⟨zR, zH⟩

/-- Whether a place is one of a plane, and where in it. -/
def placeB (w h : Int) (l : List S42) (c y x : Int) : Bool := inR c 0 (wrap64 ((l.length : Int) - 1)) && (inR y 0 (wrap64 ((blocksI w h l c).2 - 1)) && inR x 0 (wrap64 ((blocksI w h l c).1 - 1)))
def placeK (w h : Int) (l : List S42) (c y x : Int) : Int := wrap64 (wrap64 (y * (blocksI w h l c).1) + x)
theorem sPlace_f {p w h r : Int} {l : List S42} (hl : l.length ≤ 1048576) (hb : frameB p w h r l = true) (c y x : Int) : Ev (fun k => spec_l11Place.f k p w h r l c y x) (if placeB w h l c y x = true then (placeK w h l c y x, true) else (0, false)) := by
  unfold spec_l11Place.f placeB
  obtain ⟨q1, q2⟩ := frame_len hb
  refine evBind (evConst (between_f _ _ _)) (evIf (fun h1 => ?_) (fun h1 => ?_))
  · have h2 := inR_iff.1 h1
    rw [w64 (x := (l.length : Int) - 1) (by omega) (by omega)] at h2
    rw [h1, Bool.true_and]
    refine evBind (sBlocks_f hl hb c h2.1 (by omega)) (evBind (evConst (between_f _ _ _)) (evIf (fun h3 => ?_) (fun h3 => ?_)))
    · rw [h3, Bool.true_and]
      refine evBind (evConst (between_f _ _ _)) (evIf (fun h4 => ?_) (fun h4 => ?_))
      · rw [h4, if_pos rfl]
        exact Ev.now _
      · rw [Bool.eq_false_iff.2 h4, if_neg (by simp)]
        exact Ev.now _
    · rw [Bool.eq_false_iff.2 h3, Bool.false_and, if_neg (by simp)]
      exact Ev.now _
  · rw [Bool.eq_false_iff.2 h1, Bool.false_and, if_neg (by simp)]
    exact Ev.now _
theorem planesB_get (w h : Int) (l : List S42) (c : List (List (List Int))) : ∀ (d i : Nat), planesB w h l c d i = true → ∀ j : Nat, i ≤ j → j < i + d → ((rd_L4 c (j : Int)).length : Int) = wrap64 ((blocksI w h l j).1 * (blocksI w h l j).2)
  | 0, _, _, _, _, _ => by omega
  | d + 1, i, hb, j, h1, h2 => by
    rw [planesB, Bool.and_eq_true, Bool.and_eq_true, decide_eq_true_eq] at hb
    by_cases e : j = i
    · rw [e]
      exact hb.1
    · exact planesB_get w h l c d (i + 1) hb.2.2 j (by omega) (by omega)
theorem upI_leP {a m : Int} (h1 : 1 ≤ a) (h2 : a ≤ 256) (h3 : 1 ≤ m) (h4 : m ≤ 4) : 0 ≤ upI a (wrap64 (8 * m)) ∧ upI a (wrap64 (8 * m)) ≤ 256 := by
  unfold upI
  rw [w64 (x := 8 * m) (by omega) (by omega), w64 (x := a + 8 * m) (by omega) (by omega), w64 (x := a + 8 * m - 1) (by omega) (by omega), Int.tdiv_eq_ediv_of_nonneg (by omega)]
  have hm : m = 1 ∨ m = 2 ∨ m = 3 ∨ m = 4 := by omega
  rcases hm with rfl | rfl | rfl | rfl
  · rw [w64 (by omega) (by omega)]; omega
  · rw [w64 (by omega) (by omega)]; omega
  · rw [w64 (by omega) (by omega)]; omega
  · rw [w64 (by omega) (by omega)]; omega
theorem mul_le4P {u f : Int} (h0 : 0 ≤ u) (h1 : u ≤ 256) (h2 : 1 ≤ f) (h3 : f ≤ 4) : 0 ≤ wrap64 (u * f) ∧ wrap64 (u * f) ≤ 1024 := by
  have hm : f = 1 ∨ f = 2 ∨ f = 3 ∨ f = 4 := by omega
  rcases hm with rfl | rfl | rfl | rfl
  · rw [w64 (by omega) (by omega)]; omega
  · rw [w64 (by omega) (by omega)]; omega
  · rw [w64 (by omega) (by omega)]; omega
  · rw [w64 (by omega) (by omega)]; omega
theorem blocks_le {p w h r : Int} {l : List S42} (hb : frameB p w h r l = true) {c : Nat} (hc : c < l.length) : (0 ≤ (blocksI w h l c).1 ∧ (blocksI w h l c).1 ≤ 1024) ∧ 0 ≤ (blocksI w h l c).2 ∧ (blocksI w h l c).2 ≤ 1024 := by
  obtain ⟨m1, m2⟩ := frame_most hb
  obtain ⟨f1, f2⟩ := frame_comp hb hc
  have hw : (1 ≤ w ∧ w ≤ 256) ∧ (1 ≤ h ∧ h ≤ 256) := by
    simp only [frameB, headF, Bool.and_eq_true, inR_iff] at hb
    omega
  have u1 := upI_leP hw.1.1 hw.1.2 m1.1 m1.2
  have u2 := upI_leP hw.2.1 hw.2.2 m2.1 m2.2
  exact ⟨mul_le4P u1.1 u1.2 f1.1 f1.2, mul_le4P u2.1 u2.2 f2.1 f2.2⟩
theorem place_mul {A B y x : Int} (hA : 0 ≤ A ∧ A ≤ 1024) (hB : 0 ≤ B ∧ B ≤ 1024) (hy : 0 ≤ y ∧ y ≤ wrap64 (B - 1)) (hx : 0 ≤ x ∧ x ≤ wrap64 (A - 1)) : 0 ≤ wrap64 (wrap64 (y * A) + x) ∧ wrap64 (wrap64 (y * A) + x) < wrap64 (A * B) := by
  rw [w64 (x := B - 1) (by omega) (by omega)] at hy
  rw [w64 (x := A - 1) (by omega) (by omega)] at hx
  have h0 : 0 ≤ y * A := Int.mul_nonneg hy.1 hA.1
  have h1 : y * A ≤ (B - 1) * A := Int.mul_le_mul_of_nonneg_right hy.2 hA.1
  have h2 : (B - 1) * A = A * B - A := by rw [Int.sub_mul, Int.one_mul, Int.mul_comm]
  have h3 : A * B ≤ 1024 * 1024 := Int.mul_le_mul hA.2 hB.2 hB.1 (by omega)
  rw [h2] at h1
  generalize y * A = Y at h0 h1 ⊢
  generalize A * B = M at h1 h3 ⊢
  rw [w64 (x := Y) (by omega) (by omega), w64 (x := Y + x) (by omega) (by omega), w64 (x := M) (by omega) (by omega)]
  omega
theorem place_in {p w h r : Int} {l : List S42} {c : List (List (List Int))} (hc : coefsB p w h r l c = true) {x y z : Int} (hp : placeB w h l x y z = true) :
    (0 ≤ x ∧ x < (c.length : Int)) ∧ 0 ≤ placeK w h l x y z ∧ placeK w h l x y z < ((rd_L4 c x).length : Int) := by
  rw [coefsB, Bool.and_eq_true, Bool.and_eq_true, decide_eq_true_eq] at hc
  obtain ⟨hb, hlen, hpl⟩ := hc
  obtain ⟨q1, q2⟩ := frame_len hb
  rw [placeB, Bool.and_eq_true, Bool.and_eq_true, inR_iff, inR_iff, inR_iff, w64 (x := (l.length : Int) - 1) (by omega) (by omega)] at hp
  obtain ⟨h1, h2, h3⟩ := hp
  obtain ⟨i, rfl⟩ : ∃ i : Nat, x = (i : Int) := ⟨x.toNat, by omega⟩
  obtain ⟨b1, b2⟩ := blocks_le hb (c := i) (by omega)
  refine ⟨by omega, ?_⟩
  rw [planesB_get w h l c c.length 0 hpl i (by omega) (by omega)]
  exact place_mul b1 b2 h2 h3

/-! ### spec_BlockAt: function 66 -/
def spec_BlockAt.f (k : Nat) (a0_0 : Int) (a0_1 : Int) (a0_2 : Int) (a0_3 : Int) (l0_4 : List (S42)) (l1_0 : List (List (List Int))) (a2_0 : Int) (a2_1 : Int) (a2_2 : Int) : Option (List Int) := (spec_CoefsOk.f k a0_0 a0_1 a0_2 a0_3 l0_4 l1_0).bind fun t248 => (if t248 = true then ((spec_l11Place.f k a0_0 a0_1 a0_2 a0_3 l0_4 a2_0 a2_1 a2_2).bind fun bt249 => (if bt249.2 = true then ((some (([] : List Int) : List Int)).bind fun y251 => (if 0 ≤ a2_0 then (if a2_0 < (l1_0.length : Int) then (if 0 ≤ bt249.1 then (if bt249.1 < ((rd_L4 l1_0 a2_0).length : Int) then (if y251.length + (rd_L3 (rd_L4 l1_0 a2_0) bt249.1).length < 17592186044416 then (some (y251 ++ (rd_L3 (rd_L4 l1_0 a2_0) bt249.1))) else (none)) else (none)) else (none)) else (none)) else (none))) else (some (([] : List Int))))) else (some (([] : List Int))))
set_option maxHeartbeats 8000000 in
set_option maxRecDepth 100000 in
theorem spec_BlockAt.calls (k : Nat) (a0_0 : Int) (a0_1 : Int) (a0_2 : Int) (a0_3 : Int) (A0_4 : Option Addr) (c0_4 : Nat) (l0_4 : List (S42)) (A1_0 : Option Addr) (c1_0 : Nat) (l1_0 : List (List (List Int))) (a2_0 : Int) (a2_1 : Int) (a2_2 : Int) (r : List Int) (w : World) (hr0_4 : Kd.C k42 w A0_4 l0_4.length l0_4) (hc0_4 : l0_4.length ≤ c0_4) (hr1_0 : Kd.C (Kd.slice 22 (Kd.slice 3 (Kd.int .i64))) w A1_0 l1_0.length l1_0) (hc1_0 : l1_0.length ≤ c1_0) (h : spec_BlockAt.f k a0_0 a0_1 a0_2 a0_3 l0_4 l1_0 a2_0 a2_1 a2_2 = some r) :
  Calls Try.prog 66 #[.agg #[.int .i64 a0_0, .int .i64 a0_1, .int .i64 a0_2, .int .i64 a0_3, .slice A0_4 l0_4.length c0_4], .agg #[.slice A1_0 l1_0.length c1_0], .agg #[.int .i64 a2_0, .int .i64 a2_1, .int .i64 a2_2]] w fun e w' => ∃ v0_ : Value, e = .returned (v0_) ∧ Kd.R (Kd.int .i64) 3 w' w.heap.size (fun _ => True) v0_ r ∧ Below w.heap.size w w' := by
 have hu45 := Try.underlying45
 have hu63 := Try.underlying63
 have hu87 := Try.underlying87
 have HR0_4 := aM hr0_4
 have HC0_4 := aM hc0_4
 clear hr0_4 hc0_4
 have HR1_0 := aM hr1_0
 have HC1_0 := aM hc1_0
 clear hr1_0 hc1_0
 have HB := aM (Below.refl w.heap.size w)
 have H : ((spec_CoefsOk.f k a0_0 a0_1 a0_2 a0_3 l0_4 l1_0).bind fun t248 => (if t248 = true then ((spec_l11Place.f k a0_0 a0_1 a0_2 a0_3 l0_4 a2_0 a2_1 a2_2).bind fun bt249 => (if bt249.2 = true then ((some (([] : List Int) : List Int)).bind fun y251 => (if 0 ≤ a2_0 then (if a2_0 < (l1_0.length : Int) then (if 0 ≤ bt249.1 then (if bt249.1 < ((rd_L4 l1_0 a2_0).length : Int) then (if y251.length + (rd_L3 (rd_L4 l1_0 a2_0) bt249.1).length < 17592186044416 then (some (y251 ++ (rd_L3 (rd_L4 l1_0 a2_0) bt249.1))) else (none)) else (none)) else (none)) else (none)) else (none))) else (some (([] : List Int))))) else (some (([] : List Int))))) = some r := h
 clear h
 obtain ⟨t248, A4, H⟩ := oH H
 by_cases c5 : t248 = true
 ·subst c5
  replace H := iT H
  replace H := oB H
  obtain ⟨⟨t249, t250⟩, A60, H⟩ := H
  replace H : (if t250 = true then ((some (([] : List Int) : List Int)).bind fun y251 => (if 0 ≤ a2_0 then (if a2_0 < (l1_0.length : Int) then (if 0 ≤ t249 then (if t249 < ((rd_L4 l1_0 a2_0).length : Int) then (if y251.length + (rd_L3 (rd_L4 l1_0 a2_0) t249).length < 17592186044416 then (some (y251 ++ (rd_L3 (rd_L4 l1_0 a2_0) t249))) else (none)) else (none)) else (none)) else (none)) else (none))) else (some (([] : List Int)))) = some r := H
  have A6 := aM A60
  clear A60
  by_cases c7 : t250 = true
  ·subst c7
   replace H := iT H
   obtain ⟨y251, hy251⟩ : ∃ y_ : List Int, y_ = (([] : List Int)) := ⟨_, rfl⟩
   replace H : (if 0 ≤ a2_0 then (if a2_0 < (l1_0.length : Int) then (if 0 ≤ t249 then (if t249 < ((rd_L4 l1_0 a2_0).length : Int) then (if y251.length + (rd_L3 (rd_L4 l1_0 a2_0) t249).length < 17592186044416 then (some (y251 ++ (rd_L3 (rd_L4 l1_0 a2_0) t249))) else (none)) else (none)) else (none)) else (none)) else (none)) = some r := by first | (rw [hy251]; with_reducible exact H) | (have H2_ := (Option.bind_some _ _).symm.trans H; rw [hy251]; with_reducible exact H2_) | (have H2_ := (Option.bind_some _ _).symm.trans H; with_reducible exact H2_) | with_reducible exact H | (rw [hy251]; exact H) | exact H
   have Ny251 := aM hy251
   clear hy251
   by_cases c8 : 0 ≤ a2_0
   ·rw [if_pos c8] at H
    have c8b0 : decide (0 ≤ a2_0) = true := decide_eq_true c8
    clear c8
    by_cases c9 : a2_0 < (l1_0.length : Int)
    ·rw [if_pos c9] at H
     have c9b0 : decide (a2_0 < (l1_0.length : Int)) = true := decide_eq_true c9
     clear c9
     by_cases c10 : 0 ≤ t249
     ·rw [if_pos c10] at H
      have c10b0 : decide (0 ≤ t249) = true := decide_eq_true c10
      clear c10
      by_cases c11 : t249 < ((rd_L4 l1_0 a2_0).length : Int)
      ·rw [if_pos c11] at H
       have c11b0 : decide (t249 < ((rd_L4 l1_0 a2_0).length : Int)) = true := decide_eq_true c11
       clear c11
       by_cases c12 : y251.length + (rd_L3 (rd_L4 l1_0 a2_0) t249).length < 17592186044416
       ·rw [if_pos c12] at H
        have LMc12 := aM c12
        clear c12
        obtain ⟨y256, hy256⟩ : ∃ y_ : List Int, y_ = (y251 ++ (rd_L3 (rd_L4 l1_0 a2_0) t249)) := ⟨_, rfl⟩
        replace H : (some y256) = some r := by first | (rw [hy256]; with_reducible exact H) | (have H2_ := (Option.bind_some _ _).symm.trans H; rw [hy256]; with_reducible exact H2_) | (have H2_ := (Option.bind_some _ _).symm.trans H; with_reducible exact H2_) | with_reducible exact H | (rw [hy256]; exact H) | exact H
        have Ny256 := aM hy256
        clear hy256
        obtain rfl := Option.some.inj H
        go_enter Try.func66, Try.ntmps66
        go_wp2_with (first | ((with_reducible refine gate_dst (N := 3) rfl ?_); refine box_event ?hg (N := 3) ?hd (cs := #[.int .i64 a0_0, .int .i64 a0_1, .int .i64 a0_2, .int .i64 a0_3, .slice A0_4 l0_4.length c0_4]) (t := 45) ?hr ?_; (case hd => rfl); (case hg => rfl); (case hr => first | (go_simp; done) | (go_simp; rfl)); intro gb245 hg w13 hbox hb; have BK245 := aM hbox; have GW245 := aM (zG hg : w.heap.size ≤ gb245); have GE245 := aM (zG hg : w.heap.size ≤ gb245); replace HB := cH HB hb; clear hb hbox hg) | ((with_reducible refine gate_dst (N := 4) rfl ?_); refine box_event ?hg (N := 4) ?hd (cs := #[.slice A1_0 l1_0.length c1_0]) (t := 63) ?hr ?_; (case hd => rfl); (case hg => rfl); (case hr => first | (go_simp; done) | (go_simp; rfl)); intro gb246 hg w14 hbox hb; have BK246 := aM hbox; have GW246 := aM (zG hg : w.heap.size ≤ gb246); have GE246 := aM (zG hg : w.heap.size ≤ gb246); replace HB := cH HB hb; have NB245_246 := aM ((zL hg BK245)); have NB246_245 := aM ((zM hg BK245)); replace BK245 := cB BK245 hb; clear hb hbox hg) | ((with_reducible refine gate_dst (N := 5) rfl ?_); refine box_event ?hg (N := 5) ?hd (cs := #[.int .i64 a2_0, .int .i64 a2_1, .int .i64 a2_2]) (t := 87) ?hr ?_; (case hd => rfl); (case hg => rfl); (case hr => first | (go_simp; done) | (go_simp; rfl)); intro gb247 hg w15 hbox hb; have BK247 := aM hbox; have GW247 := aM (zG hg : w.heap.size ≤ gb247); have GE247 := aM (zG hg : w.heap.size ≤ gb247); replace HB := cH HB hb; have NB245_247 := aM ((zL hg BK245)); have NB247_245 := aM ((zM hg BK245)); replace BK245 := cB BK245 hb; have NB246_247 := aM ((zL hg BK246)); have NB247_246 := aM ((zM hg BK246)); replace BK246 := cB BK246 hb; clear hb hbox hg; have hnb16 := NB245_246.out; have hnc16 := NB246_245.out; have hnb17 := NB245_247.out; have hnc17 := NB247_245.out; obtain ⟨hcz18_0, hcz18_1, hcz18_2, hcz18_3, hcz18_4⟩ := kk5 BK245; obtain ⟨hfz18_0, hfz18_1, hfz18_2, hfz18_3, hfz18_4⟩ := kg5 BK245; have hnb19 := NB246_247.out; have hnc19 := NB247_246.out; have hcz20_0 := kk1 BK246; have hfz20_0 := kg1 BK246) | (go_at_call 55; (with_reducible refine (spec_CoefsOk.calls k a0_0 a0_1 a0_2 a0_3 _ _ l0_4 _ _ l1_0 true _ ?side1 ?side2 ?side3 ?side4 A4.out).mono ?_); (case side1 => exact zC (Kd.C_below HR0_4.out HB.out)); (case side2 => exact HC0_4.out); (case side3 => exact zC (Kd.C_below HR1_0.out HB.out)); (case side4 => exact HC1_0.out); rintro e w21 ⟨rfl, hb⟩; replace BK245 := cB BK245 hb; replace BK246 := cB BK246 hb; replace BK247 := cB BK247 hb; replace HB := cH HB hb; (try clear hb); obtain ⟨hcz22_0, hcz22_1, hcz22_2, hcz22_3, hcz22_4⟩ := kk5 BK245; obtain ⟨hfz22_0, hfz22_1, hfz22_2, hfz22_3, hfz22_4⟩ := kg5 BK245; obtain ⟨hcz23_0, hcz23_1, hcz23_2⟩ := kk3 BK247; obtain ⟨hfz23_0, hfz23_1, hfz23_2⟩ := kg3 BK247) | (go_at_call 114; (with_reducible refine (spec_l11Place.calls k a0_0 a0_1 a0_2 a0_3 _ _ l0_4 a2_0 a2_1 a2_2 t249 true _ ?side1 ?side2 A6.out).mono ?_); (case side1 => exact zC (Kd.C_below HR0_4.out HB.out)); (case side2 => exact HC0_4.out); rintro e w24 ⟨rfl, hb⟩; replace BK245 := cB BK245 hb; replace BK246 := cB BK246 hb; replace BK247 := cB BK247 hb; replace HB := cH HB hb; (try clear hb)) | ((with_reducible refine gate_dst (N := 23) rfl ?_); refine Kd.R_lit (Kd.int .i64) _ 3 ?hg (N := 23) ?hd (xs := ([] : List Int)) (inner := []) (ok := fun _ => True) (okp := fun _ => True) ?hr ?hp (fun _ hk => hk) trivial (Below.refl _ _) (Nat.le_refl _) (by simp) ?_; (case hd => rfl); (case hg => rfl); (case hr => first | (go_simp; done) | (go_simp; rfl)); (case hp => exact (Reps.none _ _)); intro v252 w25 ho26 hb hg_ hnew_; clear hg_ hnew_; (first | rw [← Ny251.out] at ho26 | (simp only [Int.reduceToNat] at ho26; rw [← Ny251.out] at ho26)); have HO253 := aM (Kd.R_lower ho26 (below_size zH)); replace BK245 := cB BK245 hb; replace BK246 := cB BK246 hb; replace BK247 := cB BK247 hb; replace HB := cH HB hb; clear hb ho26; have hcz27_0 := kk1 BK246; have hfz27_0 := kg1 BK246; obtain ⟨hcz28_0, hcz28_1, hcz28_2⟩ := kk3 BK247; obtain ⟨hfz28_0, hfz28_1, hfz28_2⟩ := kg3 BK247; have p254 : 0 ≤ (a2_0 : Int) := zA; have q254 : a2_0 < (l1_0.length : Int) := zA; obtain ⟨ad254, A254_0, c254_0, e254, hx254_0, hl254_0, hi254_0⟩ := at_L4 HR1_0.out a2_0 p254 q254; cases e254; replace hx254_0 := hX HB hx254_0; have HR254_0 := aM hi254_0; have HC254_0 := aM hl254_0; clear hi254_0 hl254_0; replace p254 := eq_true p254; replace q254 := eq_true q254; have p255 : 0 ≤ (t249 : Int) := zA; have q255 : t249 < ((rd_L4 l1_0 a2_0).length : Int) := zA; obtain ⟨ad255, A255_0, c255_0, e255, hx255_0, hl255_0, hi255_0⟩ := at_L3 HR254_0.out t249 p255 q255; cases e255; replace hx255_0 := hX HB hx255_0; have HR255_0 := aM hi255_0; have HC255_0 := aM hl255_0; clear hi255_0 hl255_0; replace p255 := eq_true p255; replace q255 := eq_true q255) | ((with_reducible refine gate_builtin (b := .append) (xs := #[.tmp 23, .tmp 32]) rfl ?_); at_builtin; refine Kd.R_append_rows (Kd.int .i64) (w0 := w) w.heap.size rfl (.tmp 23) (.tmp 32) 22 3 (.int .i64 0) 8 rfl Try.underlying22 info3 rfl (by decide) (by omega) v252 y251 (rd_L3 (rd_L4 l1_0 a2_0) t249) _ _ _ (fun _ => True) (fun _ => False) rfl rfl ?aO ?aR (fun _ _ h => h) (fun _ h => h.elim) ?aF ?aB ?aS ?aL ?_; (case aR => exact zC (Kd.C_below HR255_0.out HB.out)); (case aB => exact zH); (case aF => exact (fun _ _ => trivial)); (case aO => exact (by (with_reducible repeat (first | apply Kd.R_alloc | apply Kd.R_drewN | apply Kd.R_drew)); exact HO253.out)); (case aS => exact (below_size zH)); (case aL => have := LMc12.out; omega); intro v257 w29 ho hb hg hat; rw [← Ny256.out] at ho; replace BK245 := aM (blk_grown (g := gb245) (o := .cells #[.int .i64 a0_0, .int .i64 a0_1, .int .i64 a0_2, .int .i64 a0_3, .slice A0_4 l0_4.length c0_4] 45 (0, 0)) (zK BK245) hg (Kd.R_ne HO253.out BK245.out (by decide))); replace BK246 := aM (blk_grown (g := gb246) (o := .cells #[.slice (some ad254) l1_0.length c1_0] 63 (0, 0)) (zK BK246) hg (Kd.R_ne HO253.out BK246.out (by decide))); replace BK247 := aM (blk_grown (g := gb247) (o := .cells #[.int .i64 a2_0, .int .i64 a2_1, .int .i64 a2_2] 87 (0, 0)) (zK BK247) hg (Kd.R_ne HO253.out BK247.out (by decide))); replace HB := aM (hb); have HO258 := aM (ho); clear HO253; clear ho hb hg hat))
        go_ret
        exact ⟨_, zR, by (with_reducible repeat (first | apply Kd.R_alloc | apply Kd.R_drewN | apply Kd.R_drew)); exact HO258.out, zH⟩
       ·rw [if_neg c12] at H
        exact absurd H (by simp)
      ·rw [if_neg c11] at H
       exact absurd H (by simp)
     ·rw [if_neg c10] at H
      exact absurd H (by simp)
    ·rw [if_neg c9] at H
     exact absurd H (by simp)
   ·rw [if_neg c8] at H
    exact absurd H (by simp)
  ·replace c7 := Bool.eq_false_iff.mpr c7
   subst c7
   replace H := iF H
   obtain ⟨y259, hy259⟩ : ∃ y_ : List Int, y_ = (([] : List Int)) := ⟨_, rfl⟩
   replace H : (some y259) = some r := by first | (rw [hy259]; with_reducible exact H) | (have H2_ := (Option.bind_some _ _).symm.trans H; rw [hy259]; with_reducible exact H2_) | (have H2_ := (Option.bind_some _ _).symm.trans H; with_reducible exact H2_) | with_reducible exact H | (rw [hy259]; exact H) | exact H
   have Ny259 := aM hy259
   clear hy259
   obtain rfl := Option.some.inj H
   go_enter Try.func66, Try.ntmps66
   go_wp2_with (first | ((with_reducible refine gate_dst (N := 3) rfl ?_); refine box_event ?hg (N := 3) ?hd (cs := #[.int .i64 a0_0, .int .i64 a0_1, .int .i64 a0_2, .int .i64 a0_3, .slice A0_4 l0_4.length c0_4]) (t := 45) ?hr ?_; (case hd => rfl); (case hg => rfl); (case hr => first | (go_simp; done) | (go_simp; rfl)); intro gb245 hg w30 hbox hb; have BK245 := aM hbox; have GW245 := aM (zG hg : w.heap.size ≤ gb245); have GE245 := aM (zG hg : w.heap.size ≤ gb245); replace HB := cH HB hb; clear hb hbox hg) | ((with_reducible refine gate_dst (N := 4) rfl ?_); refine box_event ?hg (N := 4) ?hd (cs := #[.slice A1_0 l1_0.length c1_0]) (t := 63) ?hr ?_; (case hd => rfl); (case hg => rfl); (case hr => first | (go_simp; done) | (go_simp; rfl)); intro gb246 hg w31 hbox hb; have BK246 := aM hbox; have GW246 := aM (zG hg : w.heap.size ≤ gb246); have GE246 := aM (zG hg : w.heap.size ≤ gb246); replace HB := cH HB hb; have NB245_246 := aM ((zL hg BK245)); have NB246_245 := aM ((zM hg BK245)); replace BK245 := cB BK245 hb; clear hb hbox hg) | ((with_reducible refine gate_dst (N := 5) rfl ?_); refine box_event ?hg (N := 5) ?hd (cs := #[.int .i64 a2_0, .int .i64 a2_1, .int .i64 a2_2]) (t := 87) ?hr ?_; (case hd => rfl); (case hg => rfl); (case hr => first | (go_simp; done) | (go_simp; rfl)); intro gb247 hg w32 hbox hb; have BK247 := aM hbox; have GW247 := aM (zG hg : w.heap.size ≤ gb247); have GE247 := aM (zG hg : w.heap.size ≤ gb247); replace HB := cH HB hb; have NB245_247 := aM ((zL hg BK245)); have NB247_245 := aM ((zM hg BK245)); replace BK245 := cB BK245 hb; have NB246_247 := aM ((zL hg BK246)); have NB247_246 := aM ((zM hg BK246)); replace BK246 := cB BK246 hb; clear hb hbox hg; have hnb33 := NB245_246.out; have hnc33 := NB246_245.out; have hnb34 := NB245_247.out; have hnc34 := NB247_245.out; obtain ⟨hcz35_0, hcz35_1, hcz35_2, hcz35_3, hcz35_4⟩ := kk5 BK245; obtain ⟨hfz35_0, hfz35_1, hfz35_2, hfz35_3, hfz35_4⟩ := kg5 BK245; have hnb36 := NB246_247.out; have hnc36 := NB247_246.out; have hcz37_0 := kk1 BK246; have hfz37_0 := kg1 BK246) | (go_at_call 55; (with_reducible refine (spec_CoefsOk.calls k a0_0 a0_1 a0_2 a0_3 _ _ l0_4 _ _ l1_0 true _ ?side1 ?side2 ?side3 ?side4 A4.out).mono ?_); (case side1 => exact zC (Kd.C_below HR0_4.out HB.out)); (case side2 => exact HC0_4.out); (case side3 => exact zC (Kd.C_below HR1_0.out HB.out)); (case side4 => exact HC1_0.out); rintro e w38 ⟨rfl, hb⟩; replace BK245 := cB BK245 hb; replace BK246 := cB BK246 hb; replace BK247 := cB BK247 hb; replace HB := cH HB hb; (try clear hb); obtain ⟨hcz39_0, hcz39_1, hcz39_2, hcz39_3, hcz39_4⟩ := kk5 BK245; obtain ⟨hfz39_0, hfz39_1, hfz39_2, hfz39_3, hfz39_4⟩ := kg5 BK245; obtain ⟨hcz40_0, hcz40_1, hcz40_2⟩ := kk3 BK247; obtain ⟨hfz40_0, hfz40_1, hfz40_2⟩ := kg3 BK247) | (go_at_call 114; (with_reducible refine (spec_l11Place.calls k a0_0 a0_1 a0_2 a0_3 _ _ l0_4 a2_0 a2_1 a2_2 t249 false _ ?side1 ?side2 A6.out).mono ?_); (case side1 => exact zC (Kd.C_below HR0_4.out HB.out)); (case side2 => exact HC0_4.out); rintro e w41 ⟨rfl, hb⟩; replace BK245 := cB BK245 hb; replace BK246 := cB BK246 hb; replace BK247 := cB BK247 hb; replace HB := cH HB hb; (try clear hb)) | ((with_reducible refine gate_dst (N := 22) rfl ?_); refine Kd.R_lit (Kd.int .i64) _ 3 ?hg (N := 22) ?hd (xs := ([] : List Int)) (inner := []) (ok := fun _ => True) (okp := fun _ => True) ?hr ?hp (fun _ hk => hk) trivial (Below.refl _ _) (Nat.le_refl _) (by simp) ?_; (case hd => rfl); (case hg => rfl); (case hr => first | (go_simp; done) | (go_simp; rfl)); (case hp => exact (Reps.none _ _)); intro v260 w42 ho43 hb hg_ hnew_; clear hg_ hnew_; (first | rw [← Ny259.out] at ho43 | (simp only [Int.reduceToNat] at ho43; rw [← Ny259.out] at ho43)); have HO261 := aM (Kd.R_lower ho43 (below_size zH)); replace BK245 := cB BK245 hb; replace BK246 := cB BK246 hb; replace BK247 := cB BK247 hb; replace HB := cH HB hb; clear hb ho43))
   go_ret
   exact ⟨_, zR, by (with_reducible repeat (first | apply Kd.R_alloc | apply Kd.R_drewN | apply Kd.R_drew)); exact HO261.out, zH⟩
 ·replace c5 := Bool.eq_false_iff.mpr c5
  subst c5
  replace H := iF H
  obtain ⟨y262, hy262⟩ : ∃ y_ : List Int, y_ = (([] : List Int)) := ⟨_, rfl⟩
  replace H : (some y262) = some r := by first | (rw [hy262]; with_reducible exact H) | (have H2_ := (Option.bind_some _ _).symm.trans H; rw [hy262]; with_reducible exact H2_) | (have H2_ := (Option.bind_some _ _).symm.trans H; with_reducible exact H2_) | with_reducible exact H | (rw [hy262]; exact H) | exact H
  have Ny262 := aM hy262
  clear hy262
  obtain rfl := Option.some.inj H
  go_enter Try.func66, Try.ntmps66
  go_wp2_with (first | ((with_reducible refine gate_dst (N := 3) rfl ?_); refine box_event ?hg (N := 3) ?hd (cs := #[.int .i64 a0_0, .int .i64 a0_1, .int .i64 a0_2, .int .i64 a0_3, .slice A0_4 l0_4.length c0_4]) (t := 45) ?hr ?_; (case hd => rfl); (case hg => rfl); (case hr => first | (go_simp; done) | (go_simp; rfl)); intro gb245 hg w44 hbox hb; have BK245 := aM hbox; have GW245 := aM (zG hg : w.heap.size ≤ gb245); have GE245 := aM (zG hg : w.heap.size ≤ gb245); replace HB := cH HB hb; clear hb hbox hg) | ((with_reducible refine gate_dst (N := 4) rfl ?_); refine box_event ?hg (N := 4) ?hd (cs := #[.slice A1_0 l1_0.length c1_0]) (t := 63) ?hr ?_; (case hd => rfl); (case hg => rfl); (case hr => first | (go_simp; done) | (go_simp; rfl)); intro gb246 hg w45 hbox hb; have BK246 := aM hbox; have GW246 := aM (zG hg : w.heap.size ≤ gb246); have GE246 := aM (zG hg : w.heap.size ≤ gb246); replace HB := cH HB hb; have NB245_246 := aM ((zL hg BK245)); have NB246_245 := aM ((zM hg BK245)); replace BK245 := cB BK245 hb; clear hb hbox hg) | ((with_reducible refine gate_dst (N := 5) rfl ?_); refine box_event ?hg (N := 5) ?hd (cs := #[.int .i64 a2_0, .int .i64 a2_1, .int .i64 a2_2]) (t := 87) ?hr ?_; (case hd => rfl); (case hg => rfl); (case hr => first | (go_simp; done) | (go_simp; rfl)); intro gb247 hg w46 hbox hb; have BK247 := aM hbox; have GW247 := aM (zG hg : w.heap.size ≤ gb247); have GE247 := aM (zG hg : w.heap.size ≤ gb247); replace HB := cH HB hb; have NB245_247 := aM ((zL hg BK245)); have NB247_245 := aM ((zM hg BK245)); replace BK245 := cB BK245 hb; have NB246_247 := aM ((zL hg BK246)); have NB247_246 := aM ((zM hg BK246)); replace BK246 := cB BK246 hb; clear hb hbox hg; have hnb47 := NB245_246.out; have hnc47 := NB246_245.out; have hnb48 := NB245_247.out; have hnc48 := NB247_245.out; obtain ⟨hcz49_0, hcz49_1, hcz49_2, hcz49_3, hcz49_4⟩ := kk5 BK245; obtain ⟨hfz49_0, hfz49_1, hfz49_2, hfz49_3, hfz49_4⟩ := kg5 BK245; have hnb50 := NB246_247.out; have hnc50 := NB247_246.out; have hcz51_0 := kk1 BK246; have hfz51_0 := kg1 BK246) | (go_at_call 55; (with_reducible refine (spec_CoefsOk.calls k a0_0 a0_1 a0_2 a0_3 _ _ l0_4 _ _ l1_0 false _ ?side1 ?side2 ?side3 ?side4 A4.out).mono ?_); (case side1 => exact zC (Kd.C_below HR0_4.out HB.out)); (case side2 => exact HC0_4.out); (case side3 => exact zC (Kd.C_below HR1_0.out HB.out)); (case side4 => exact HC1_0.out); rintro e w52 ⟨rfl, hb⟩; replace BK245 := cB BK245 hb; replace BK246 := cB BK246 hb; replace BK247 := cB BK247 hb; replace HB := cH HB hb; (try clear hb)) | ((with_reducible refine gate_dst (N := 13) rfl ?_); refine Kd.R_lit (Kd.int .i64) _ 3 ?hg (N := 13) ?hd (xs := ([] : List Int)) (inner := []) (ok := fun _ => True) (okp := fun _ => True) ?hr ?hp (fun _ hk => hk) trivial (Below.refl _ _) (Nat.le_refl _) (by simp) ?_; (case hd => rfl); (case hg => rfl); (case hr => first | (go_simp; done) | (go_simp; rfl)); (case hp => exact (Reps.none _ _)); intro v263 w53 ho54 hb hg_ hnew_; clear hg_ hnew_; (first | rw [← Ny262.out] at ho54 | (simp only [Int.reduceToNat] at ho54; rw [← Ny262.out] at ho54)); have HO264 := aM (Kd.R_lower ho54 (below_size zH)); replace BK245 := cB BK245 hb; replace BK246 := cB BK246 hb; replace BK247 := cB BK247 hb; replace HB := cH HB hb; clear hb ho54))
  go_ret
  exact ⟨_, zR, by (with_reducible repeat (first | apply Kd.R_alloc | apply Kd.R_drewN | apply Kd.R_drew)); exact HO264.out, zH⟩

theorem bnd_at {c : List (List (List Int))} (hx : ∀ x ∈ c, BndS 1048576 x) {x y : Int} (h : 0 ≤ x ∧ x < (c.length : Int)) (h2 : 0 ≤ y ∧ y < ((rd_L4 c x).length : Int)) : (rd_L3 (rd_L4 c x) y).length ≤ 1048576 := by
  obtain ⟨i, rfl⟩ : ∃ i : Nat, x = (i : Int) := ⟨x.toNat, by omega⟩
  obtain ⟨j, rfl⟩ : ∃ j : Nat, y = (j : Int) := ⟨y.toNat, by omega⟩
  rw [rdSSS_nat (by omega)] at h2 ⊢
  rw [rdSS_nat (by omega)]
  have := (hx _ (List.getElem_mem (by omega : i < c.length))).2 _ (List.getElem_mem (by omega : j < (c[i]'(by omega)).length))
  omega
def blockI (p w h r : Int) (l : List S42) (c : List (List (List Int))) (x y z : Int) : List Int :=
  if coefsB p w h r l c = true ∧ placeB w h l x y z = true then rd_L3 (rd_L4 c x) (placeK w h l x y z) else []
theorem blockI_length {p w h r : Int} {l : List S42} {c : List (List (List Int))} (hx : ∀ x ∈ c, BndS 1048576 x) (x y z : Int) : (blockI p w h r l c x y z).length ≤ 1048576 := by
  unfold blockI
  split
  · rename_i hc
    have := place_in hc.1 hc.2
    exact bnd_at hx this.1 this.2
  · simp
theorem coefs_frame {p w h r : Int} {l : List S42} {c : List (List (List Int))} (hc : coefsB p w h r l c = true) : frameB p w h r l = true := by
  rw [coefsB, Bool.and_eq_true] at hc
  exact hc.1
theorem sBlockAt_f (p w h r : Int) (l : List S42) (hl : l.length ≤ 1048576) (c : List (List (List Int))) (hx : ∀ x ∈ c, BndS 1048576 x) (x y z : Int) : Ev (fun n => spec_BlockAt.f n p w h r l c x y z) (blockI p w h r l c x y z) := by
  unfold spec_BlockAt.f blockI
  refine evBind (sCoefsOk_f p w h r l hl c hx) (evIf (fun h1 => ?_) (fun h1 => ?_))
  · have key := sPlace_f hl (coefs_frame h1) x y z
    by_cases hp : placeB w h l x y z = true
    · rw [if_pos hp] at key
      rw [if_pos ⟨h1, hp⟩]
      obtain ⟨b1, b2⟩ := place_in h1 hp
      refine evBind key (evPos rfl (evBind (evConst rfl) (evPos b1.1 (evPos b1.2 (evPos b2.1 (evPos b2.2 (evPos ?_ ?_)))))))
      · have := bnd_at hx b1 b2
        simp only [List.length_nil]
        omega
      · exact evConst rfl
    · rw [if_neg hp] at key
      rw [if_neg (fun e => hp e.2)]
      exact evBind key (evNeg (by simp) (Ev.now _))
  · rw [if_neg (fun e => h1 e.1)]
    exact Ev.now _

/-! ### laws_toPlace: function 67 -/
def laws_toPlace.f (a0_0 : Int) (a0_1 : Int) (a0_2 : Int) : Option (Int × Int × Int) := some (a0_0, a0_1, a0_2)
set_option maxHeartbeats 8000000 in
set_option maxRecDepth 100000 in
theorem laws_toPlace.calls (a0_0 : Int) (a0_1 : Int) (a0_2 : Int) (r1 : Int) (r2 : Int) (r3 : Int) (w : World) (h : laws_toPlace.f a0_0 a0_1 a0_2 = some (r1, r2, r3)) :
  Calls Try.prog 67 #[.agg #[.int .i64 a0_0, .int .i64 a0_1, .int .i64 a0_2]] w fun e w' => e = .returned (.agg #[.int .i64 r1, .int .i64 r2, .int .i64 r3]) ∧ Below w.heap.size w w' := by
 have hu85 := Try.underlying85
 have hu87 := Try.underlying87
 have HB := aM (Below.refl w.heap.size w)
 have H : (some (a0_0, a0_1, a0_2)) = some (r1, r2, r3) := h
 clear h
 simp only [Option.some.injEq, Prod.mk.injEq] at H
 obtain ⟨rfl, rfl, rfl⟩ := H
 go_enter Try.func67, Try.ntmps67
 go_wp2_with (first | ((with_reducible refine gate_dst (N := 1) rfl ?_); refine box_event ?hg (N := 1) ?hd (cs := #[.int .i64 a0_0, .int .i64 a0_1, .int .i64 a0_2]) (t := 85) ?hr ?_; (case hd => rfl); (case hg => rfl); (case hr => first | (go_simp; done) | (go_simp; rfl)); intro gb265 hg w2 hbox hb; have BK265 := aM hbox; have GW265 := aM (zG hg : w.heap.size ≤ gb265); have GE265 := aM (zG hg : w.heap.size ≤ gb265); replace HB := cH HB hb; clear hb hbox hg) | ((with_reducible refine gate_dst (N := 2) rfl ?_); refine box_event ?hg (N := 2) ?hd (cs := #[.int .i64 0, .int .i64 0, .int .i64 0]) (t := 87) ?hr ?_; (case hd => rfl); (case hg => rfl); (case hr => first | (go_simp; done) | (go_simp; rfl)); intro gb266 hg w3 hbox hb; have BK266 := aM hbox; have GW266 := aM (zG hg : w.heap.size ≤ gb266); have GE266 := aM (zG hg : w.heap.size ≤ gb266); replace HB := cH HB hb; have NB265_266 := aM ((zL hg BK265)); have NB266_265 := aM ((zM hg BK265)); replace BK265 := cB BK265 hb; clear hb hbox hg) | ((with_reducible refine gate_dst (N := 3) rfl ?_); refine box_event ?hg (N := 3) ?hd (cs := #[.int .i64 0, .int .i64 0, .int .i64 0]) (t := 87) ?hr ?_; (case hd => rfl); (case hg => rfl); (case hr => first | (go_simp; done) | (go_simp; rfl)); intro gb267 hg w4 hbox hb; have BK267 := aM hbox; have GW267 := aM (zG hg : w.heap.size ≤ gb267); have GE267 := aM (zG hg : w.heap.size ≤ gb267); replace HB := cH HB hb; have NB265_267 := aM ((zL hg BK265)); have NB267_265 := aM ((zM hg BK265)); replace BK265 := cB BK265 hb; have NB266_267 := aM ((zL hg BK266)); have NB267_266 := aM ((zM hg BK266)); replace BK266 := cB BK266 hb; clear hb hbox hg; have hnb5 := NB265_266.out; have hnc5 := NB266_265.out; have hnb6 := NB265_267.out; have hnc6 := NB267_265.out; obtain ⟨hcz7_0, hcz7_1, hcz7_2⟩ := kk3 BK265; obtain ⟨hfz7_0, hfz7_1, hfz7_2⟩ := kg3 BK265; have hnb8 := NB267_266.out; have hnc8 := NB266_267.out; obtain ⟨hcz9_0, hcz9_1, hcz9_2⟩ := kk3 BK267; obtain ⟨hfz9_0, hfz9_1, hfz9_2⟩ := kg3 BK267; obtain ⟨hcz10_0, hcz10_1, hcz10_2⟩ := kk3 BK266; obtain ⟨hfz10_0, hfz10_1, hfz10_2⟩ := kg3 BK266))
 refine bodyPost_ret (results_cell_row rfl _ _ gb266 87 #[.int .i64 a0_0, .int .i64 a0_1, .int .i64 a0_2] (0, 0) _ rfl (by (with_reducible repeat (first | apply kN | apply kD | apply kA)); refine blk_put (cs := #[.int .i64 a0_0, .int .i64 a0_1, .int .i64 0]) ?_ 2 _ rfl; (with_reducible repeat (first | apply kN | apply kD | apply kA)); refine blk_put (cs := #[.int .i64 a0_0, .int .i64 0, .int .i64 0]) ?_ 1 _ rfl; (with_reducible repeat (first | apply kN | apply kD | apply kA)); refine blk_put (cs := #[.int .i64 0, .int .i64 0, .int .i64 0]) ?_ 0 _ rfl; (with_reducible repeat (first | apply kN | apply kD | apply kA)); refine blk_far ?_ NB266_267.out _; (with_reducible repeat (first | apply kN | apply kD | apply kA)); refine blk_far ?_ NB266_267.out _; (with_reducible repeat (first | apply kN | apply kD | apply kA)); refine blk_far ?_ NB266_267.out _; (with_reducible repeat (first | apply kN | apply kD | apply kA)); exact BK266.out) Try.underlying87 rfl (by kernel_rfl)) rfl ?_
 exact ⟨zR, zH⟩

/-! ### impl_within: function 101 -/
def impl_within.f (a0 : Int) (a1 : Int) (a2 : Int) : Option (Bool) := if a0 ≥ a1 then (some (decide (a0 ≤ a2))) else (some false)
set_option maxHeartbeats 8000000 in
set_option maxRecDepth 100000 in
theorem impl_within.calls (a0 : Int) (a1 : Int) (a2 : Int) (r : Bool) (w : World) (h : impl_within.f a0 a1 a2 = some r) :
  Calls Try.prog 101 #[.int .i64 a0, .int .i64 a1, .int .i64 a2] w fun e w' => e = .returned (.bool r) ∧ Drawn0 w w' := by
 have H : (if a0 ≥ a1 then (some (decide (a0 ≤ a2))) else (some false)) = some r := h
 clear h
 by_cases c4 : a0 ≥ a1
 ·rw [if_pos c4] at H
  have c4b0 : decide (a1 ≤ a0) = true := decide_eq_true c4
  clear c4
  obtain rfl := Option.some.inj H
  go_enter Try.func101, Try.ntmps101
  go_wp2
  go_ret
  exact ⟨by first | rfl | (simp; done) | (simp [*]; done), by repeat (first | exact Drawn0.refl _ | apply Drawn0.step)⟩
 ·rw [if_neg c4] at H
  have c4b0 : decide (a1 ≤ a0) = false := decide_eq_false c4
  clear c4
  obtain rfl := Option.some.inj H
  go_enter Try.func101, Try.ntmps101
  go_wp2
  go_ret
  exact ⟨by first | rfl | (simp; done) | (simp [*]; done), by repeat (first | exact Drawn0.refl _ | apply Drawn0.step)⟩

theorem within_f (a b c : Int) : impl_within.f a b c = some (inR a b c) := inR_ite a b c

/-! ### impl_allWithin: function 111 -/
def impl_allWithin.l0 : Nat → Int → Int → List Int → Int → Int → Option (Bool)
  | 0, _, _, _, _, _ => none
  | k + 1, x1, x2, x9, x10, x11 => if x11 < x10 then (if 0 ≤ x11 then (if x11 < (x9.length : Int) then ((impl_within.f (rd x9 x11) x1 x2).bind fun t269 => (if t269 = true then (impl_allWithin.l0 k x1 x2 x9 x10 (wrap64 (x11 + 1))) else (some false))) else (none)) else (none)) else (some true)
def impl_allWithin.f (k : Nat) (l0 : List Int) (a1 : Int) (a2 : Int) : Option (Bool) := impl_allWithin.l0 k a1 a2 l0 (l0.length : Int) 0
set_option maxHeartbeats 8000000 in
set_option maxRecDepth 100000 in
theorem impl_allWithin.calls (k : Nat) (A0 : Option Addr) (c0 : Nat) (l0 : List Int) (a1 : Int) (a2 : Int) (r : Bool) (w : World) (hr0 : Kd.C (Kd.int .i64) w A0 l0.length l0) (hc0 : l0.length ≤ c0) (h : impl_allWithin.f k l0 a1 a2 = some r) :
  Calls Try.prog 111 #[.slice A0 l0.length c0, .int .i64 a1, .int .i64 a2] w fun e w' => e = .returned (.bool r) ∧ Drawn0 w w' := by
 have HR0 := aM hr0
 have HC0 := aM hc0
 clear hr0 hc0
 have H : (impl_allWithin.l0 k a1 a2 l0 (l0.length : Int) 0) = some r := h
 clear h
 have H' := aM H
 clear H
 go_enter Try.func111, Try.ntmps111
 go_wp2
 go_loopg [11] k (fun kq v11 w' => ∃ (x11_1 : Int), v11 = .int .i64 x11_1 ∧ Aside0 (impl_allWithin.l0 kq a1 a2 l0 (l0.length : Int) x11_1 = some r) ∧ Aside0 (kq ≤ k) ∧ Drawn0 w w')
 case atStart => exact ⟨(0), zS, H', ⟨Nat.le_refl _⟩, by repeat (first | exact Drawn0.refl _ | apply Drawn0.step)⟩
 case round =>
  clear H'
  obtain ⟨x11_1, rfl, HA, HK1, ⟨m1, rfl⟩⟩ := hrel
  cases gk with
  | zero => exact absurd HA.out (by simp [impl_allWithin.l0])
  | succ k1 =>
   have H := HA.out
   clear HA
   simp only [impl_allWithin.l0] at H
   by_cases c4 : x11_1 < (l0.length : Int)
   ·rw [if_pos c4] at H
    have c4b0 : decide (x11_1 < (l0.length : Int)) = true := decide_eq_true c4
    clear c4
    by_cases c5 : 0 ≤ x11_1
    ·rw [if_pos c5] at H
     have c5b0 : decide (0 ≤ x11_1) = true := decide_eq_true c5
     clear c5
     by_cases c6 : x11_1 < (l0.length : Int)
     ·rw [if_pos c6] at H
      have c6b0 : decide (x11_1 < (l0.length : Int)) = true := decide_eq_true c6
      clear c6
      obtain ⟨t269, A7, H⟩ := oH H
      by_cases c8 : t269 = true
      ·subst c8
       replace H := iT H
       have H' := aM H
       clear H
       have p268 : 0 ≤ (x11_1 : Int) := zA
       have q268 : x11_1 < (l0.length : Int) := zA
       obtain ⟨ad268, e268, hx268_0⟩ := Kd.at_int HR0.out x11_1 p268 q268
       cases e268
       replace p268 := eq_true p268
       replace q268 := eq_true q268
       go_wp2_with (first | (go_at_call 101; (with_reducible refine (impl_within.calls (rd l0 x11_1) a1 a2 true _ A7.out).mono ?_); rintro e w' ⟨rfl, ⟨nd, rfl⟩⟩))
       go_roundg k1
       case measure => have := HK1.out; omega
       case rel => exact ⟨(wrap64 (x11_1 + 1)), zS, H', ⟨by have := HK1.out; omega⟩, by repeat (first | exact Drawn0.refl _ | apply Drawn0.step)⟩
      ·replace c8 := Bool.eq_false_iff.mpr c8
       subst c8
       replace H := iF H
       obtain rfl := Option.some.inj H
       have p268 : 0 ≤ (x11_1 : Int) := zA
       have q268 : x11_1 < (l0.length : Int) := zA
       obtain ⟨ad268, e268, hx268_0⟩ := Kd.at_int HR0.out x11_1 p268 q268
       cases e268
       replace p268 := eq_true p268
       replace q268 := eq_true q268
       go_wp2_with (first | (go_at_call 101; (with_reducible refine (impl_within.calls (rd l0 x11_1) a1 a2 false _ A7.out).mono ?_); rintro e w' ⟨rfl, ⟨nd, rfl⟩⟩))
       go_ret
       exact ⟨by first | rfl | (simp; done) | (simp [*]; done), by repeat (first | exact Drawn0.refl _ | apply Drawn0.step)⟩
     ·rw [if_neg c6] at H
      exact absurd H (by simp)
    ·rw [if_neg c5] at H
     exact absurd H (by simp)
   ·rw [if_neg c4] at H
    have c4b0 : decide (x11_1 < (l0.length : Int)) = false := decide_eq_false c4
    clear c4
    obtain rfl := Option.some.inj H
    go_wp2
    go_ret
    exact ⟨by first | rfl | (simp; done) | (simp [*]; done), by repeat (first | exact Drawn0.refl _ | apply Drawn0.step)⟩

theorem allWithin_l0 (lo up : Int) (l : List Int) (hl : l.length ≤ maxLen) : ∀ (d i : Nat), i + d = l.length → Ev (fun k => impl_allWithin.l0 k lo up l (l.length : Int) i) (allR (l.drop i) lo up) := by
  unfold maxLen at hl
  intro d
  induction d with
  | zero =>
    intro i hi
    refine Ev.step (fun k => by rw [impl_allWithin.l0]) ?_
    rw [List.drop_eq_nil_of_le (by omega)]
    exact evNeg (by omega) (Ev.now true)
  | succ d ih =>
    intro i hi
    have h1 : i < l.length := by omega
    refine Ev.step (fun k => by rw [impl_allWithin.l0]) ?_
    refine evPos (by omega) (evPos (by omega) (evPos (by omega) ?_))
    rw [drop_get h1, rd_nat h1, within_f]
    simp only [Option.bind_some, allR, List.all_cons]
    cases inR l[i] lo up with
    | false => exact evNeg (by simp) (Ev.now false)
    | true =>
      refine evPos rfl ?_
      rw [w64 (by omega) (by omega)]
      exact ih (i + 1) (by omega)
theorem allWithin_f (l : List Int) (lo hi : Int) (hl : l.length ≤ maxLen) : Ev (fun k => impl_allWithin.f k l lo hi) (allR l lo hi) := by
  have := allWithin_l0 lo hi l hl l.length 0 (by omega)
  simpa [impl_allWithin.f] using this

/-! ### impl_isLevels: function 73 -/
def impl_isLevels.f (k : Nat) (l0 : List Int) : Option (Bool) := if (l0.length : Int) = 64 then ((impl_allWithin.f k l0 (-16383) 16383).bind fun t270 => (some t270)) else (some false)
set_option maxHeartbeats 8000000 in
set_option maxRecDepth 100000 in
theorem impl_isLevels.calls (k : Nat) (A0 : Option Addr) (c0 : Nat) (l0 : List Int) (r : Bool) (w : World) (hr0 : Kd.C (Kd.int .i64) w A0 l0.length l0) (hc0 : l0.length ≤ c0) (h : impl_isLevels.f k l0 = some r) :
  Calls Try.prog 73 #[.slice A0 l0.length c0] w fun e w' => e = .returned (.bool r) ∧ Drawn0 w w' := by
 have HR0 := aM hr0
 have HC0 := aM hc0
 clear hr0 hc0
 have H : (if (l0.length : Int) = 64 then ((impl_allWithin.f k l0 (-16383) 16383).bind fun t270 => (some t270)) else (some false)) = some r := h
 clear h
 by_cases c2 : (l0.length : Int) = 64
 ·rw [if_pos c2] at H
  have c2b0 : ((l0.length : Int) == 64) = true := beq_iff_eq.mpr c2
  have c2b1 : ((l0.length : Int) != 64) = false := bne_eq_false_iff_eq.mpr c2
  clear c2
  obtain ⟨t270, A3, H⟩ := oH H
  obtain rfl := Option.some.inj H
  go_enter Try.func73, Try.ntmps73
  go_wp2_with (first | (go_at_call 111; (with_reducible refine (impl_allWithin.calls k _ _ l0 (-16383) 16383 t270 _ ?side1 ?side2 A3.out).mono ?_); (case side1 => exact zC HR0.out); (case side2 => exact HC0.out); rintro e w' ⟨rfl, ⟨nd, rfl⟩⟩))
  go_ret
  exact ⟨by first | rfl | (simp; done) | (simp [*]; done), by repeat (first | exact Drawn0.refl _ | apply Drawn0.step)⟩
 ·rw [if_neg c2] at H
  have c2b0 : ((l0.length : Int) == 64) = false := beq_eq_false_iff_ne.mpr c2
  have c2b1 : ((l0.length : Int) != 64) = true := bne_iff_ne.mpr c2
  obtain rfl := Option.some.inj H
  go_enter Try.func73, Try.ntmps73
  go_wp2
  go_ret
  exact ⟨by first | rfl | (simp; done) | (simp [*]; done), by repeat (first | exact Drawn0.refl _ | apply Drawn0.step)⟩

theorem isLevels_f (l : List Int) : Ev (fun k => impl_isLevels.f k l) (numsB l (-16383) 16383) := by
  unfold impl_isLevels.f numsB
  refine evIf (fun h => ?_) (fun h => ?_)
  · rw [decide_eq_true h, Bool.true_and]
    exact evBind (allWithin_f l _ _ (by unfold maxLen; omega)) (Ev.now _)
  · rw [decide_eq_false h, Bool.false_and]
    exact Ev.now _

-- NOT PRINTED: function 142 (impl_Comp_142)

-- NOT PRINTED: function 124 (impl_Comp_124)

/-! ### impl_FrameOk_1: function 125 (by hand) -/
/-- Where the first element lies that a test takes; -1 if there is none. -/
def idxP {α : Type} (p : α → Bool) : List α → Nat → Int
  | [], _ => -1
  | x :: xs, i => if p x = true then (i : Int) else idxP p xs (i + 1)
theorem idxP_none {α : Type} (p : α → Bool) : ∀ (l : List α) (i : Nat), l.any p = false → idxP p l i = -1
  | [], _, _ => rfl
  | x :: xs, i, h => by
    rw [List.any_cons, Bool.or_eq_false_iff] at h
    rw [idxP, h.1, if_neg (by simp)]
    exact idxP_none p xs (i + 1) h.2
theorem idxP_nonneg {α : Type} (p : α → Bool) : ∀ (l : List α) (i : Nat), decide (0 ≤ idxP p l i) = l.any p
  | [], _ => rfl
  | x :: xs, i => by
    rw [idxP, List.any_cons]
    cases h : p x with
    | true => rw [if_pos rfl]; simp
    | false => rw [if_neg (by simp), Bool.false_or]; exact idxP_nonneg p xs (i + 1)
theorem idxP_at {α : Type} (p : α → Bool) : ∀ (l : List α) (i k : Nat) (hk : k < l.length), (∀ j (hj : j < l.length), j < k → p l[j] = false) → p l[k] = true → idxP p l i = ((i + k : Nat) : Int)
  | [], _, k, hk, _, _ => by simp at hk
  | x :: xs, i, 0, _, _, h => by
    have h2 : p x = true := h
    rw [idxP, if_pos h2]
    simp
  | x :: xs, i, k + 1, hk, h0, h => by
    have hx : p x = false := h0 0 (by simp) (by omega)
    rw [idxP, hx, if_neg (by simp)]
    have := idxP_at p xs (i + 1) k (by simpa using hk) (fun j hj hjk => h0 (j + 1) (by simpa using hj) (by omega)) h
    rw [this, show i + 1 + k = i + (k + 1) from by omega]
set_option maxHeartbeats 8000000 in
set_option maxRecDepth 100000 in
theorem indexFunc_Comp (cl : Nat) (lb : Array Value) (p : S42 → Bool) (A : Option Addr) (c : Nat) (l : List S42) (W : World) (hr : Kd.C k42 W A l.length l)
    (eg : ∀ args w, (callFunc cl args).run Try.prog w = .ok (.enter cl args) w)
    (hp : ∀ (W' : World) (x : S42), Below W.heap.size W W' → Calls Try.prog cl (#[.agg #[.int .i64 x.f0, .int .i64 x.f1, .int .i64 x.f2, .int .i64 x.f3]] ++ lb) W' fun e w' => e = .returned (.bool (p x)) ∧ Below W.heap.size W w') :
    Calls Try.prog 142 #[.slice A l.length c, .func (.func cl) #[] lb] W fun e w' => e = .returned (.int .i64 (idxP p l 0)) ∧ Below W.heap.size W w' := by
  have hmax := Kd.C_max hr
  have HR := Aside0.mk hr
  have HP := Aside0.mk hp
  clear hr hp
  have HB := Aside0.mk (Below.refl W.heap.size W)
  go_enter Try.func142, Try.ntmps142
  go_wp2
  go_loopg [5, 8] l.length (fun gg _ s8 wr => ∃ kk : Nat, kk ≤ l.length ∧ l.length - kk ≤ gg ∧ s8 = .int .i64 (kk : Int) ∧ Aside0 (Below W.heap.size W wr) ∧ Aside0 (∀ j (hj : j < l.length), j < kk → p l[j] = false))
  case atStart => exact ⟨0, Nat.zero_le _, by omega, rfl, HB, ⟨fun j _ hj => absurd hj (Nat.not_lt_zero _)⟩⟩
  case round =>
    clear HB
    obtain ⟨kk, hkk, hg, rfl, BW, AN⟩ := hrel
    by_cases hlt : kk < l.length
    · have hltz : (kk : Int) < (l.length : Int) := by omega
      have h0z : (0 : Int) ≤ (kk : Int) := by omega
      have d1 : decide ((kk : Int) < (l.length : Int)) = true := decide_eq_true hltz
      have d2 : decide ((0 : Int) ≤ (kk : Int)) = true := decide_eq_true h0z
      obtain ⟨ad, e1, hx0, hx1, hx2, hx3⟩ := at_T42 HR.out (kk : Int) h0z hltz
      cases e1
      rw [Int.toNat_natCast] at hx0 hx1 hx2 hx3
      replace hx0 := (BW.out.cell (World.block_lt_of_cell? W _ hx0)).trans hx0
      replace hx1 := (BW.out.cell (World.block_lt_of_cell? W _ hx1)).trans hx1
      replace hx2 := (BW.out.cell (World.block_lt_of_cell? W _ hx2)).trans hx2
      replace hx3 := (BW.out.cell (World.block_lt_of_cell? W _ hx3)).trans hx3
      have EY : Aside0 (rd_T42 l (kk : Int) = l[kk]) := ⟨by simp [rd_T42, List.getD, hlt]⟩
      have hcall := HP.out wr (rd_T42 l (kk : Int)) BW.out
      cases hq : p (rd_T42 l (kk : Int)) with
      | true =>
        rw [hq] at hcall
        have HQ := Aside0.mk hq
        clear hq
        go_wp2_with (go_at_fn cl; refine hcall.mono ?_; rintro e w' ⟨rfl, hb'⟩)
        go_ret
        refine ⟨?_, hb'⟩
        have hh := HQ.out
        rw [EY.out] at hh
        have := idxP_at p l 0 kk hlt AN.out hh
        rw [Nat.zero_add] at this
        rw [this]
        rfl
      | false =>
        rw [hq] at hcall
        have HQ := Aside0.mk hq
        clear hq
        go_wp2_with (go_at_fn cl; refine hcall.mono ?_; rintro e w' ⟨rfl, hb'⟩)
        go_roundg (l.length - (kk + 1))
        case measure => omega
        case rel =>
          refine ⟨kk + 1, by omega, by omega, by go_num, ⟨hb'⟩, ⟨fun j hj hjk => ?_⟩⟩
          by_cases e : j = kk
          · subst e
            have hh := HQ.out
            rwa [EY.out] at hh
          · exact AN.out j hj (by omega)
    · have d1 : decide ((kk : Int) < (l.length : Int)) = false := decide_eq_false (by omega)
      go_wp2
      go_ret
      refine ⟨?_, BW.out⟩
      rw [idxP_none p l 0 (by
        rw [List.any_eq_false]
        intro x hx
        obtain ⟨j, hj, rfl⟩ := List.getElem_of_mem hx
        rw [AN.out j hj (by omega)]
        simp)]
      rfl
set_option maxHeartbeats 8000000 in
set_option maxRecDepth 100000 in
theorem containsFunc_Comp (cl : Nat) (lb : Array Value) (p : S42 → Bool) (A : Option Addr) (c : Nat) (l : List S42) (W : World) (hr : Kd.C k42 W A l.length l)
    (eg : ∀ args w, (callFunc cl args).run Try.prog w = .ok (.enter cl args) w)
    (hp : ∀ (W' : World) (x : S42), Below W.heap.size W W' → Calls Try.prog cl (#[.agg #[.int .i64 x.f0, .int .i64 x.f1, .int .i64 x.f2, .int .i64 x.f3]] ++ lb) W' fun e w' => e = .returned (.bool (p x)) ∧ Below W.heap.size W w') :
    Calls Try.prog 124 #[.slice A l.length c, .func (.func cl) #[] lb] W fun e w' => e = .returned (.bool (l.any p)) ∧ Below W.heap.size W w' := by
  have HR := Aside0.mk hr
  have HP := Aside0.mk hp
  clear hr hp
  rw [← idxP_nonneg p l 0]
  go_enter Try.func124, Try.ntmps124
  go_wp2_with (go_at_call 142; refine (indexFunc_Comp cl lb p A c l _ HR.out eg HP.out).mono ?_; rintro e w' ⟨rfl, hb'⟩)
  go_ret
  exact ⟨rfl, hb'⟩
set_option maxHeartbeats 8000000 in
set_option maxRecDepth 100000 in
theorem frameOk1_one (g : Nat) (y : S42) (c0 c1 c2 c3 : Int) (w W : World) (hbx : w.heap[g]? = some (.cells #[.int .i64 c0, .int .i64 c1, .int .i64 c2, .int .i64 c3] 42 (0, 0))) (hb : Below w.heap.size w W) :
    Calls Try.prog 125 (#[.agg #[.int .i64 y.f0, .int .i64 y.f1, .int .i64 y.f2, .int .i64 y.f3]] ++ #[.pointer (some ⟨g, 0, none⟩)]) W fun e w' => e = .returned (.bool (y.f0 == c0)) ∧ Below w.heap.size w w' := by
  have hc : W.cell? ⟨g, 0, none⟩ = some (.int .i64 c0) := (blk_cell (blk_below hbx hb) 0).trans rfl
  have hlt := World.block_lt_of_cell? W _ hc
  have HB := Aside0.mk hb
  clear hb hbx
  have hu := Try.underlying42
  go_enter Try.func125, Try.ntmps125
  go_wp2
  go_ret
  exact ⟨rfl, by repeat (first | exact HB.out | apply below_alloc | apply pw_below_drewN | apply below_drew1)⟩
def impl_FrameOk_1.f (l : List S42) (c0 _c1 _c2 _c3 : Int) : Option Bool := some (l.any fun y => y.f0 == c0)
theorem impl_FrameOk_1.calls (A : Option Addr) (c : Nat) (l : List S42) (g : Nat) (c0 c1 c2 c3 : Int) (r : Bool) (w : World) (hr : Kd.C k42 w A l.length l) (_hc : l.length ≤ c)
  (hbx : w.heap[g]? = some (.cells #[.int .i64 c0, .int .i64 c1, .int .i64 c2, .int .i64 c3] 42 (0, 0))) (h : impl_FrameOk_1.f l c0 c1 c2 c3 = some r) :
  Calls Try.prog 124 #[.slice A l.length c, .func (.func 125) #[] #[.pointer (some ⟨g, 0, none⟩)]] w fun e w' => e = .returned (.bool r) ∧ Below w.heap.size w w' := by
 obtain rfl := Option.some.inj h
 exact containsFunc_Comp 125 _ (fun y => y.f0 == c0) A c l w hr (enters_of Try.func125 (by kernel_rfl) rfl) (fun W' x hb => frameOk1_one g x c0 c1 c2 c3 w W' hbx hb)

end Go.Proofs.Ythajjjpblkhmmaa.CB
