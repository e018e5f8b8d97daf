/- Functions that a law of this seat reaches: written by a program of this session (wip/xprint.py), and by hand. -/
import Derived.Test.YthajjjpblkhmmaaYMac
import Derived.Test.YthajjjpblkhmmaaYCBx0
import Derived.Test.YthajjjpblkhmmaaYCBx3
import Derived.Test.YthajjjpblkhmmaaYCBx5
import Derived.Test.YthajjjpblkhmmaaYCBx7
import Derived.Test.YthajjjpblkhmmaaYCBx9
import Derived.Test.YthajjjpblkhmmaaYCBx10
import Derived.Test.YthajjjpblkhmmaaYCBx11
import Derived.Test.YthajjjpblkhmmaaYCBx12
namespace Go.Proofs.Ythajjjpblkhmmaa.CB
open Go.RowKit Go.Proofs.Ythajjjpblkhmmaa.B Go.Proofs.YthajjjpblkhmmaaW.PrintWords Go.Proofs.YthajjjpblkhmmaaW.PrintLast Go.Proofs.YthajjjpblkhmmaaW.PrintMore
attribute [local go_sem] max2_int min2_int max_two min_two max_three min_three max_four min_four   -- for this text's walks alone
set_option linter.unusedVariables false
set_option linter.unusedSimpArgs false

theorem iCoefs_l1 {p w h r : Int} {l : List S42} (hl : l.length ≤ 1048576) (hb : frameB p w h r l = true) (c : List (List (List Int))) (i : Nat) (hil : i < l.length) (P : List (List Int)) (hPl : P.length ≤ 1048576)
    (A B : Int) (hlen : (P.length : Int) = wrap64 (A * B)) (R : Bool) (hR : Ev (fun n => impl_CoefsOk.l0 n c (c.length : Int) (wrap64 ((i : Int) + 1)) p w h r l) R) :
    ∀ (d k : Nat), k + d = P.length → Ev (fun n => impl_CoefsOk.l1 n i A c (c.length : Int) i P (P.length : Int) k p w h r l) (planeB3 w h l i A P d k && R) := by
  intro d
  induction d with
  | zero =>
    intro k hk
    refine Ev.step (fun n => by rw [impl_CoefsOk.l1]) (evNeg (by omega) ?_)
    rw [planeB3, Bool.true_and]
    exact hR
  | succ d ih =>
    intro k hk
    have hA : ¬ A = 0 := fun e => by rw [e, Int.zero_mul, show wrap64 0 = 0 from w64 (by omega) (by omega)] at hlen; omega
    have hkl : k < P.length := by omega
    refine Ev.step (fun n => by rw [impl_CoefsOk.l1]) (evPos (by omega) (evPos (by omega) (evPos (by omega) ?_)))
    rw [planeB3]
    unfold blockB
    refine evBind (isLevels_f _) (evIf (fun h1 => ?_) (fun h1 => by rw [Bool.eq_false_iff.2 h1]; exact Ev.now _))
    rw [h1, Bool.true_and]
    refine evNeg hA (evBind (iHidden_f hl hb i _ _ (by omega) (by omega)) ?_)
    have hn := ih (k + 1) (by omega)
    rw [w64 (x := (k : Int) + 1) (by omega) (by omega)]
    refine evIf (fun h2 => ?_) (fun h2 => ?_)
    · rw [h2]
      refine evBind (allWithin_f _ 0 0 (by have := nums_len h1; unfold maxLen; omega)) (evIf (fun h3 => ?_) (fun h3 => ?_))
      · rw [h3]; simpa using hn
      · rw [Bool.eq_false_iff.2 h3]; exact Ev.now _
    · rw [Bool.eq_false_iff.2 h2]; simpa using hn
theorem iCoefs_l0 {p w h r : Int} {l : List S42} (hl : l.length ≤ 1048576) (hb : frameB p w h r l = true) (c : List (List (List Int))) (hc : c.length = l.length) (hx : ∀ x ∈ c, BndS 1048576 x) :
    ∀ (d i : Nat), i + d = c.length → Ev (fun n => impl_CoefsOk.l0 n c (c.length : Int) i p w h r l) (planesB w h l c d i) := by
  intro d
  induction d with
  | zero =>
    intro i hi
    refine Ev.step (fun n => by rw [impl_CoefsOk.l0]) (evNeg (by omega) ?_)
    exact Ev.now _
  | succ d ih =>
    intro i hi
    have hic : i < c.length := by omega
    refine Ev.step (fun n => by rw [impl_CoefsOk.l0]) (evPos (by omega) (evPos (by omega) (evPos (by omega) ?_)))
    refine evBind (iBlocks_f hl hb i (by omega) (by omega)) ?_
    rw [planesB]
    refine evIf (fun h1 => ?_) (fun h1 => by rw [decide_eq_false h1]; exact Ev.now _)
    rw [decide_eq_true h1, Bool.true_and]
    refine iCoefs_l1 hl hb c i (by omega) _ ?_ _ _ h1 _ ?_ _ 0 (by omega)
    · rw [rdSSS_nat hic]
      have := (hx _ (List.getElem_mem hic)).1
      omega
    · rw [w64 (by omega) (by omega)]
      exact ih (i + 1) (by omega)
theorem iCoefsOk_f (p w h r : Int) (l : List S42) (hl : l.length ≤ 1048576) (c : List (List (List Int))) (hx : ∀ x ∈ c, BndS 1048576 x) : Ev (fun n => impl_CoefsOk.f n p w h r l c) (coefsB p w h r l c) := by
  unfold impl_CoefsOk.f coefsB
  refine evBind (iFrameOk_f p w h r l hl) (evIf (fun hb => ?_) (fun hb => ?_))
  · rw [hb, Bool.true_and]
    by_cases he : (c.length : Int) = (l.length : Int)
    · rw [decide_eq_true he, Bool.true_and, show ((c.length : Int) != (l.length : Int)) = false from by simp [he]]
      refine Ev.step (fun k => by rw [impl_CoefsOk.j0]) (evNeg (by simp) ?_)
      exact iCoefs_l0 hl hb c (by omega) hx c.length 0 (by omega)
    · rw [decide_eq_false he, Bool.false_and, show ((c.length : Int) != (l.length : Int)) = true from by simp [he]]
      refine Ev.step (fun k => by rw [impl_CoefsOk.j0]) (evPos rfl ?_)
      exact Ev.now _
  · rw [Bool.eq_false_iff.2 hb, Bool.false_and]
    refine Ev.step (fun k => by rw [impl_CoefsOk.j0]) (evPos rfl ?_)
    exact Ev.now _

/-! ### slices_Clone_int_int: function 104 (by hand) -/
set_option maxHeartbeats 8000000 in
set_option maxRecDepth 100000 in
theorem cloneL_calls (A : Option Addr) (c : Nat) (l : List Int) (w : World) (hr : Kd.C (Kd.int .i64) w A l.length l) (hc : l.length ≤ c) (hl : l.length ≤ 1048576) :
    Calls Try.prog 104 #[.slice A l.length c] w fun e w' => ∃ v : Value, e = .returned v ∧ Kd.R (Kd.int .i64) 3 w' w.heap.size (fun _ => True) v l ∧ Below w.heap.size w w' := by
  have HR := Aside0.mk hr
  have HL := Aside0.mk hl
  have HB := Aside0.mk (Below.refl w.heap.size w)
  cases A with
  | none =>
    have hnil : ∀ (w : World) (l c : Nat), (binOp .eql 22 (.slice none l c) (.slice none 0 0)).run Try.prog w = .ok (.bool true) w := fun w l c => Go.Lib.run_eql_slice_nil w _ _ none l c 0 0 Try.underlying22
    have h0 : l = [] := by
      rcases Nat.eq_zero_or_pos l.length with h0 | h0
      · exact List.eq_nil_of_length_eq_zero h0
      · obtain ⟨ad, e_, _⟩ := Kd.at_int hr 0 (by omega) (by omega)
        cases e_
    subst h0
    clear hr hc hl
    go_enter Try.func104, Try.ntmps104
    go_wp2
    go_ret
    exact ⟨_, rfl, Kd.R_nil _ _ _ _ _, HB.out⟩
  | some ad =>
    have hnil : ∀ (w : World) (l c : Nat), (binOp .eql 22 (.slice (some ad) l c) (.slice none 0 0)).run Try.prog w = .ok (.bool false) w := fun w l c => Go.Lib.run_eql_slice_nil w _ _ (some ad) l c 0 0 Try.underlying22
    clear hr hl
    go_enter Try.func104, Try.ntmps104
    go_wp2_with (first
      | ((with_reducible refine gate_dst (N := 5) rfl ?_); refine Kd.R_lit (Kd.int .i64) _ 3 ?hg (N := 5) ?hd (xs := ([] : List Int)) (inner := []) (ok := fun _ => True) (okp := fun _ => True) ?hr ?hp (fun _ hk => hk) trivial (Below.refl _ _) (Nat.le_refl _) (by simp) ?_; (case hd => rfl); (case hg => rfl); (case hr => first | (go_simp; done) | (go_simp; rfl)); (case hp => exact (Reps.none _ _)); intro v5 w5 ho5 hb hg_ hnew_; clear hg_ hnew_; have HO := Aside0.mk ho5; have HB5 := Aside0.mk hb; clear hb ho5)
      | ((with_reducible refine gate_builtin (b := .append) (xs := #[.tmp 5, .tmp 6]) rfl ?_); at_builtin; refine Kd.R_append_rows (Kd.int .i64) (w0 := w) w.heap.size rfl (.tmp 5) (.tmp 6) 22 3 (.int .i64 0) 8 rfl Try.underlying22 info3 rfl (by decide) (by omega) v5 [] l _ _ _ (fun _ => True) (fun _ => False) rfl rfl ?aO ?aR (fun _ _ h => h) (fun _ h => h.elim) ?aF ?aB ?aS ?aL ?_; (case aR => exact Kd.C_below HR.out HB5.out); (case aB => exact HB5.out); (case aF => exact (fun _ _ => trivial)); (case aO => exact HO.out); (case aS => exact (below_size HB5.out)); (case aL => have := HL.out; simp only [List.length_nil]; omega); intro v7 w7 ho hb hg hat; rw [List.nil_append] at ho; have HO7 := Aside0.mk ho; have HB7 := Aside0.mk hb; clear ho hb hg hat))
    go_ret
    exact ⟨_, rfl, HO7.out, HB7.out⟩
def slices_Clone_int_int.f (l0 : List Int) : Option (List Int) := if l0.length ≤ 1048576 then some l0 else none
theorem slices_Clone_int_int.calls (A0 : Option Addr) (c0 : Nat) (l0 : List Int) (r : List Int) (w : World) (hr0 : Kd.C (Kd.int .i64) w A0 l0.length l0) (hc0 : l0.length ≤ c0) (h : slices_Clone_int_int.f l0 = some r) :
  Calls Try.prog 104 #[.slice A0 l0.length c0] w fun e w' => ∃ v0_ : Value, e = .returned (v0_) ∧ Kd.R (Kd.int .i64) 3 w' w.heap.size (fun _ => True) v0_ r ∧ Below w.heap.size w w' := by
 unfold slices_Clone_int_int.f at h
 by_cases hg : l0.length ≤ 1048576
 ·rw [if_pos hg] at h
  obtain rfl := Option.some.inj h
  exact cloneL_calls A0 c0 l0 w hr0 hc0 hg
 ·rw [if_neg hg] at h
  exact absurd h (by simp)

/-! ### impl_Frame_has: function 126 -/
def impl_Frame_has.f (k : Nat) (a0_0 : Int) (a0_1 : Int) (a0_2 : Int) (a0_3 : Int) (l0_4 : List (S42)) (a1 : Int) : Option (Bool) := (impl_FrameOk.f k a0_0 a0_1 a0_2 a0_3 l0_4).bind fun t330 => (if t330 = true then ((impl_within.f a1 0 (wrap64 ((l0_4.length : Int) - 1))).bind fun t331 => (some t331)) else (some false))
set_option maxHeartbeats 8000000 in
set_option maxRecDepth 100000 in
theorem impl_Frame_has.calls (k : Nat) (a0_0 : Int) (a0_1 : Int) (a0_2 : Int) (a0_3 : Int) (A0_4 : Option Addr) (c0_4 : Nat) (l0_4 : List (S42)) (a1 : Int) (r : Bool) (w : World) (hr0_4 : Kd.C k42 w A0_4 l0_4.length l0_4) (hc0_4 : l0_4.length ≤ c0_4) (h : impl_Frame_has.f k a0_0 a0_1 a0_2 a0_3 l0_4 a1 = some r) :
  Calls Try.prog 126 #[.agg #[.int .i64 a0_0, .int .i64 a0_1, .int .i64 a0_2, .int .i64 a0_3, .slice A0_4 l0_4.length c0_4], .int .i64 a1] w fun e w' => e = .returned (.bool r) ∧ Below w.heap.size w w' := by
 have hu45 := Try.underlying45
 have HR0_4 := aM hr0_4
 have HC0_4 := aM hc0_4
 clear hr0_4 hc0_4
 have HB := aM (Below.refl w.heap.size w)
 have H : ((impl_FrameOk.f k a0_0 a0_1 a0_2 a0_3 l0_4).bind fun t330 => (if t330 = true then ((impl_within.f a1 0 (wrap64 ((l0_4.length : Int) - 1))).bind fun t331 => (some t331)) else (some false))) = some r := h
 clear h
 obtain ⟨t330, A3, H⟩ := oH H
 by_cases c4 : t330 = true
 ·subst c4
  replace H := iT H
  obtain ⟨t331, A5, H⟩ := oH H
  obtain rfl := Option.some.inj H
  go_enter Try.func126, Try.ntmps126
  go_wp2_with (first | ((with_reducible refine gate_dst (N := 2) rfl ?_); (try (refine gate_guard (by rfl) ?_; dsimp only)); refine box_event ?hg (N := 2) ?hd (cs := #[.int .i64 a0_0, .int .i64 a0_1, .int .i64 a0_2, .int .i64 a0_3, .slice A0_4 l0_4.length c0_4]) (t := 45) ?hr ?_; (case hd => rfl); (case hg => rfl); (case hr => first | (go_simp; done) | (go_simp; rfl)); intro gb329 hg w6 hbox hb; have BK329 := aM hbox; have GW329 := aM (zG hg : w.heap.size ≤ gb329); have GE329 := aM (zG hg : w.heap.size ≤ gb329); replace HB := cH HB hb; clear hb hbox hg; obtain ⟨hcz7_0, hcz7_1, hcz7_2, hcz7_3, hcz7_4⟩ := kk5 BK329; obtain ⟨hfz7_0, hfz7_1, hfz7_2, hfz7_3, hfz7_4⟩ := kg5 BK329) | (go_at_call 92; (with_reducible refine (impl_FrameOk.calls k a0_0 a0_1 a0_2 a0_3 _ _ l0_4 true _ ?side1 ?side2 A3.out).mono ?_); (case side1 => exact zC (Kd.C_below HR0_4.out HB.out)); (case side2 => exact HC0_4.out); rintro e w8 ⟨rfl, hb⟩; replace BK329 := cB BK329 hb; replace HB := cH HB hb; (try clear hb); obtain ⟨hcz9_0, hcz9_1, hcz9_2, hcz9_3, hcz9_4⟩ := kk5 BK329; obtain ⟨hfz9_0, hfz9_1, hfz9_2, hfz9_3, hfz9_4⟩ := kg5 BK329) | (go_at_call 101; (with_reducible refine (impl_within.calls a1 0 (wrap64 ((l0_4.length : Int) - 1)) t331 _ A5.out).mono ?_); rintro e w' ⟨rfl, ⟨nd, rfl⟩⟩))
  go_ret
  exact ⟨zR, zH⟩
 ·replace c4 := Bool.eq_false_iff.mpr c4
  subst c4
  replace H := iF H
  obtain rfl := Option.some.inj H
  go_enter Try.func126, Try.ntmps126
  go_wp2_with (first | ((with_reducible refine gate_dst (N := 2) rfl ?_); (try (refine gate_guard (by rfl) ?_; dsimp only)); refine box_event ?hg (N := 2) ?hd (cs := #[.int .i64 a0_0, .int .i64 a0_1, .int .i64 a0_2, .int .i64 a0_3, .slice A0_4 l0_4.length c0_4]) (t := 45) ?hr ?_; (case hd => rfl); (case hg => rfl); (case hr => first | (go_simp; done) | (go_simp; rfl)); intro gb329 hg w10 hbox hb; have BK329 := aM hbox; have GW329 := aM (zG hg : w.heap.size ≤ gb329); have GE329 := aM (zG hg : w.heap.size ≤ gb329); replace HB := cH HB hb; clear hb hbox hg; obtain ⟨hcz11_0, hcz11_1, hcz11_2, hcz11_3, hcz11_4⟩ := kk5 BK329; obtain ⟨hfz11_0, hfz11_1, hfz11_2, hfz11_3, hfz11_4⟩ := kg5 BK329) | (go_at_call 92; (with_reducible refine (impl_FrameOk.calls k a0_0 a0_1 a0_2 a0_3 _ _ l0_4 false _ ?side1 ?side2 A3.out).mono ?_); (case side1 => exact zC (Kd.C_below HR0_4.out HB.out)); (case side2 => exact HC0_4.out); rintro e w12 ⟨rfl, hb⟩; replace BK329 := cB BK329 hb; replace HB := cH HB hb; (try clear hb)))
  go_ret
  exact ⟨zR, zH⟩

theorem has_f (p w h r : Int) (l : List S42) (hl : l.length ≤ 1048576) (c : Int) : Ev (fun k => impl_Frame_has.f k p w h r l c) (frameB p w h r l && inR c 0 (wrap64 ((l.length : Int) - 1))) := by
  unfold impl_Frame_has.f
  refine evBind (iFrameOk_f p w h r l hl) (evIf (fun hb => ?_) (fun hb => by rw [Bool.eq_false_iff.2 hb]; exact Ev.now _))
  rw [hb, Bool.true_and]
  exact evBind (evConst (within_f _ _ _)) (Ev.now _)

/-! ### impl_Frame_isPlace: function 115 -/
def impl_Frame_isPlace.f (k : Nat) (a0_0 : Int) (a0_1 : Int) (a0_2 : Int) (a0_3 : Int) (l0_4 : List (S42)) (a1_0 : Int) (a1_1 : Int) (a1_2 : Int) : Option (Bool) := (impl_Frame_has.f k a0_0 a0_1 a0_2 a0_3 l0_4 a1_0).bind fun t334 => (if t334 = true then ((impl_Frame_blocks.f k a0_0 a0_1 a0_2 a0_3 l0_4 a1_0).bind fun bt335 => ((impl_within.f a1_1 0 (wrap64 (bt335.2 - 1))).bind fun t337 => (if t337 = true then ((impl_within.f a1_2 0 (wrap64 (bt335.1 - 1))).bind fun t338 => (some t338)) else (some false)))) else (some false))
set_option maxHeartbeats 8000000 in
set_option maxRecDepth 100000 in
theorem impl_Frame_isPlace.calls (k : Nat) (a0_0 : Int) (a0_1 : Int) (a0_2 : Int) (a0_3 : Int) (A0_4 : Option Addr) (c0_4 : Nat) (l0_4 : List (S42)) (a1_0 : Int) (a1_1 : Int) (a1_2 : Int) (r : Bool) (w : World) (hr0_4 : Kd.C k42 w A0_4 l0_4.length l0_4) (hc0_4 : l0_4.length ≤ c0_4) (h : impl_Frame_isPlace.f k a0_0 a0_1 a0_2 a0_3 l0_4 a1_0 a1_1 a1_2 = some r) :
  Calls Try.prog 115 #[.agg #[.int .i64 a0_0, .int .i64 a0_1, .int .i64 a0_2, .int .i64 a0_3, .slice A0_4 l0_4.length c0_4], .agg #[.int .i64 a1_0, .int .i64 a1_1, .int .i64 a1_2]] w fun e w' => e = .returned (.bool r) ∧ Below w.heap.size w w' := by
 have hu45 := Try.underlying45
 have hu87 := Try.underlying87
 have HR0_4 := aM hr0_4
 have HC0_4 := aM hc0_4
 clear hr0_4 hc0_4
 have HB := aM (Below.refl w.heap.size w)
 have H : ((impl_Frame_has.f k a0_0 a0_1 a0_2 a0_3 l0_4 a1_0).bind fun t334 => (if t334 = true then ((impl_Frame_blocks.f k a0_0 a0_1 a0_2 a0_3 l0_4 a1_0).bind fun bt335 => ((impl_within.f a1_1 0 (wrap64 (bt335.2 - 1))).bind fun t337 => (if t337 = true then ((impl_within.f a1_2 0 (wrap64 (bt335.1 - 1))).bind fun t338 => (some t338)) else (some false)))) else (some false))) = some r := h
 clear h
 obtain ⟨t334, A3, H⟩ := oH H
 by_cases c4 : t334 = true
 ·subst c4
  replace H := iT H
  replace H := oB H
  obtain ⟨⟨t335, t336⟩, A50, H⟩ := H
  replace H : ((impl_within.f a1_1 0 (wrap64 (t336 - 1))).bind fun t337 => (if t337 = true then ((impl_within.f a1_2 0 (wrap64 (t335 - 1))).bind fun t338 => (some t338)) else (some false))) = some r := H
  have A5 := aM A50
  clear A50
  obtain ⟨t337, A6, H⟩ := oH H
  by_cases c7 : t337 = true
  ·subst c7
   replace H := iT H
   obtain ⟨t338, A8, H⟩ := oH H
   obtain rfl := Option.some.inj H
   go_enter Try.func115, Try.ntmps115
   go_wp2_with (first | ((with_reducible refine gate_dst (N := 2) rfl ?_); refine box_event ?hg (N := 2) ?hd (cs := #[.int .i64 a0_0, .int .i64 a0_1, .int .i64 a0_2, .int .i64 a0_3, .slice A0_4 l0_4.length c0_4]) (t := 45) ?hr ?_; (case hd => rfl); (case hg => rfl); (case hr => first | (go_simp; done) | (go_simp; rfl)); intro gb332 hg w9 hbox hb; have BK332 := aM hbox; have GW332 := aM (zG hg : w.heap.size ≤ gb332); have GE332 := aM (zG hg : w.heap.size ≤ gb332); replace HB := cH HB hb; clear hb hbox hg) | ((with_reducible refine gate_dst (N := 3) rfl ?_); refine box_event ?hg (N := 3) ?hd (cs := #[.int .i64 a1_0, .int .i64 a1_1, .int .i64 a1_2]) (t := 87) ?hr ?_; (case hd => rfl); (case hg => rfl); (case hr => first | (go_simp; done) | (go_simp; rfl)); intro gb333 hg w10 hbox hb; have BK333 := aM hbox; have GW333 := aM (zG hg : w.heap.size ≤ gb333); have GE333 := aM (zG hg : w.heap.size ≤ gb333); replace HB := cH HB hb; have NB332_333 := aM ((zL hg BK332)); have NB333_332 := aM ((zM hg BK332)); replace BK332 := cB BK332 hb; clear hb hbox hg; have hnb11 := NB332_333.out; have hnc11 := NB333_332.out; obtain ⟨hcz12_0, hcz12_1, hcz12_2, hcz12_3, hcz12_4⟩ := kk5 BK332; obtain ⟨hfz12_0, hfz12_1, hfz12_2, hfz12_3, hfz12_4⟩ := kg5 BK332; obtain ⟨hcz13_0, hcz13_1, hcz13_2⟩ := kk3 BK333; obtain ⟨hfz13_0, hfz13_1, hfz13_2⟩ := kg3 BK333) | (go_at_call 126; (with_reducible refine (impl_Frame_has.calls k a0_0 a0_1 a0_2 a0_3 _ _ l0_4 a1_0 true _ ?side1 ?side2 A3.out).mono ?_); (case side1 => exact zC (Kd.C_below HR0_4.out HB.out)); (case side2 => exact HC0_4.out); rintro e w14 ⟨rfl, hb⟩; replace BK332 := cB BK332 hb; replace BK333 := cB BK333 hb; replace HB := cH HB hb; (try clear hb); obtain ⟨hcz15_0, hcz15_1, hcz15_2, hcz15_3, hcz15_4⟩ := kk5 BK332; obtain ⟨hfz15_0, hfz15_1, hfz15_2, hfz15_3, hfz15_4⟩ := kg5 BK332; obtain ⟨hcz16_0, hcz16_1, hcz16_2⟩ := kk3 BK333; obtain ⟨hfz16_0, hfz16_1, hfz16_2⟩ := kg3 BK333) | (go_at_call 109; (with_reducible refine (impl_Frame_blocks.calls k a0_0 a0_1 a0_2 a0_3 _ _ l0_4 a1_0 t335 t336 _ ?side1 ?side2 A5.out).mono ?_); (case side1 => exact zC (Kd.C_below HR0_4.out HB.out)); (case side2 => exact HC0_4.out); rintro e w17 ⟨rfl, hb⟩; replace BK332 := cB BK332 hb; replace BK333 := cB BK333 hb; replace HB := cH HB hb; (try clear hb); obtain ⟨hcz18_0, hcz18_1, hcz18_2⟩ := kk3 BK333; obtain ⟨hfz18_0, hfz18_1, hfz18_2⟩ := kg3 BK333) | ((with_reducible refine gate_callee (f := 101) rfl ?_); refine zGl (some 23) Try.func101 #[.int .i64 a1_1, .int .i64 0, .int .i64 (wrap64 (t336 - 1))] ?_; (with_reducible refine (impl_within.calls a1_1 0 (wrap64 (t336 - 1)) true _ A6.out).mono ?_); rintro e w' ⟨rfl, ⟨nd, rfl⟩⟩; refine ⟨_, rfl, ?_⟩) | (go_at_call 101; (with_reducible refine (impl_within.calls a1_2 0 (wrap64 (t335 - 1)) t338 _ A8.out).mono ?_); rintro e w' ⟨rfl, ⟨nd, rfl⟩⟩))
   go_ret
   exact ⟨zR, zH⟩
  ·replace c7 := Bool.eq_false_iff.mpr c7
   subst c7
   replace H := iF H
   obtain rfl := Option.some.inj H
   go_enter Try.func115, Try.ntmps115
   go_wp2_with (first | ((with_reducible refine gate_dst (N := 2) rfl ?_); refine box_event ?hg (N := 2) ?hd (cs := #[.int .i64 a0_0, .int .i64 a0_1, .int .i64 a0_2, .int .i64 a0_3, .slice A0_4 l0_4.length c0_4]) (t := 45) ?hr ?_; (case hd => rfl); (case hg => rfl); (case hr => first | (go_simp; done) | (go_simp; rfl)); intro gb332 hg w19 hbox hb; have BK332 := aM hbox; have GW332 := aM (zG hg : w.heap.size ≤ gb332); have GE332 := aM (zG hg : w.heap.size ≤ gb332); replace HB := cH HB hb; clear hb hbox hg) | ((with_reducible refine gate_dst (N := 3) rfl ?_); refine box_event ?hg (N := 3) ?hd (cs := #[.int .i64 a1_0, .int .i64 a1_1, .int .i64 a1_2]) (t := 87) ?hr ?_; (case hd => rfl); (case hg => rfl); (case hr => first | (go_simp; done) | (go_simp; rfl)); intro gb333 hg w20 hbox hb; have BK333 := aM hbox; have GW333 := aM (zG hg : w.heap.size ≤ gb333); have GE333 := aM (zG hg : w.heap.size ≤ gb333); replace HB := cH HB hb; have NB332_333 := aM ((zL hg BK332)); have NB333_332 := aM ((zM hg BK332)); replace BK332 := cB BK332 hb; clear hb hbox hg; have hnb21 := NB332_333.out; have hnc21 := NB333_332.out; obtain ⟨hcz22_0, hcz22_1, hcz22_2, hcz22_3, hcz22_4⟩ := kk5 BK332; obtain ⟨hfz22_0, hfz22_1, hfz22_2, hfz22_3, hfz22_4⟩ := kg5 BK332; obtain ⟨hcz23_0, hcz23_1, hcz23_2⟩ := kk3 BK333; obtain ⟨hfz23_0, hfz23_1, hfz23_2⟩ := kg3 BK333) | (go_at_call 126; (with_reducible refine (impl_Frame_has.calls k a0_0 a0_1 a0_2 a0_3 _ _ l0_4 a1_0 true _ ?side1 ?side2 A3.out).mono ?_); (case side1 => exact zC (Kd.C_below HR0_4.out HB.out)); (case side2 => exact HC0_4.out); rintro e w24 ⟨rfl, hb⟩; replace BK332 := cB BK332 hb; replace BK333 := cB BK333 hb; replace HB := cH HB hb; (try clear hb); obtain ⟨hcz25_0, hcz25_1, hcz25_2, hcz25_3, hcz25_4⟩ := kk5 BK332; obtain ⟨hfz25_0, hfz25_1, hfz25_2, hfz25_3, hfz25_4⟩ := kg5 BK332; obtain ⟨hcz26_0, hcz26_1, hcz26_2⟩ := kk3 BK333; obtain ⟨hfz26_0, hfz26_1, hfz26_2⟩ := kg3 BK333) | (go_at_call 109; (with_reducible refine (impl_Frame_blocks.calls k a0_0 a0_1 a0_2 a0_3 _ _ l0_4 a1_0 t335 t336 _ ?side1 ?side2 A5.out).mono ?_); (case side1 => exact zC (Kd.C_below HR0_4.out HB.out)); (case side2 => exact HC0_4.out); rintro e w27 ⟨rfl, hb⟩; replace BK332 := cB BK332 hb; replace BK333 := cB BK333 hb; replace HB := cH HB hb; (try clear hb); obtain ⟨hcz28_0, hcz28_1, hcz28_2⟩ := kk3 BK333; obtain ⟨hfz28_0, hfz28_1, hfz28_2⟩ := kg3 BK333) | ((with_reducible refine gate_callee (f := 101) rfl ?_); refine zGl (some 23) Try.func101 #[.int .i64 a1_1, .int .i64 0, .int .i64 (wrap64 (t336 - 1))] ?_; (with_reducible refine (impl_within.calls a1_1 0 (wrap64 (t336 - 1)) false _ A6.out).mono ?_); rintro e w' ⟨rfl, ⟨nd, rfl⟩⟩; refine ⟨_, rfl, ?_⟩))
   go_ret
   exact ⟨zR, zH⟩
 ·replace c4 := Bool.eq_false_iff.mpr c4
  subst c4
  replace H := iF H
  obtain rfl := Option.some.inj H
  go_enter Try.func115, Try.ntmps115
  go_wp2_with (first | ((with_reducible refine gate_dst (N := 2) rfl ?_); refine box_event ?hg (N := 2) ?hd (cs := #[.int .i64 a0_0, .int .i64 a0_1, .int .i64 a0_2, .int .i64 a0_3, .slice A0_4 l0_4.length c0_4]) (t := 45) ?hr ?_; (case hd => rfl); (case hg => rfl); (case hr => first | (go_simp; done) | (go_simp; rfl)); intro gb332 hg w29 hbox hb; have BK332 := aM hbox; have GW332 := aM (zG hg : w.heap.size ≤ gb332); have GE332 := aM (zG hg : w.heap.size ≤ gb332); replace HB := cH HB hb; clear hb hbox hg) | ((with_reducible refine gate_dst (N := 3) rfl ?_); refine box_event ?hg (N := 3) ?hd (cs := #[.int .i64 a1_0, .int .i64 a1_1, .int .i64 a1_2]) (t := 87) ?hr ?_; (case hd => rfl); (case hg => rfl); (case hr => first | (go_simp; done) | (go_simp; rfl)); intro gb333 hg w30 hbox hb; have BK333 := aM hbox; have GW333 := aM (zG hg : w.heap.size ≤ gb333); have GE333 := aM (zG hg : w.heap.size ≤ gb333); replace HB := cH HB hb; have NB332_333 := aM ((zL hg BK332)); have NB333_332 := aM ((zM hg BK332)); replace BK332 := cB BK332 hb; clear hb hbox hg; have hnb31 := NB332_333.out; have hnc31 := NB333_332.out; obtain ⟨hcz32_0, hcz32_1, hcz32_2, hcz32_3, hcz32_4⟩ := kk5 BK332; obtain ⟨hfz32_0, hfz32_1, hfz32_2, hfz32_3, hfz32_4⟩ := kg5 BK332; obtain ⟨hcz33_0, hcz33_1, hcz33_2⟩ := kk3 BK333; obtain ⟨hfz33_0, hfz33_1, hfz33_2⟩ := kg3 BK333) | (go_at_call 126; (with_reducible refine (impl_Frame_has.calls k a0_0 a0_1 a0_2 a0_3 _ _ l0_4 a1_0 false _ ?side1 ?side2 A3.out).mono ?_); (case side1 => exact zC (Kd.C_below HR0_4.out HB.out)); (case side2 => exact HC0_4.out); rintro e w34 ⟨rfl, hb⟩; replace BK332 := cB BK332 hb; replace BK333 := cB BK333 hb; replace HB := cH HB hb; (try clear hb)))
  go_ret
  exact ⟨zR, zH⟩

/-! ### impl_Coefs_at: function 116 -/
def impl_Coefs_at.f (k : Nat) (l0_0 : List (List (List Int))) (a1_0 : Int) (a1_1 : Int) (a1_2 : Int) (a1_3 : Int) (l1_4 : List (S42)) (a2_0 : Int) (a2_1 : Int) (a2_2 : Int) : Option (List Int) := (impl_Frame_blocks.f k a1_0 a1_1 a1_2 a1_3 l1_4 a2_0).bind fun bt342 => (if 0 ≤ a2_0 then (if a2_0 < (l0_0.length : Int) then (if 0 ≤ (wrap64 ((wrap64 (a2_1 * bt342.1)) + a2_2)) then (if (wrap64 ((wrap64 (a2_1 * bt342.1)) + a2_2)) < ((rd_L4 l0_0 a2_0).length : Int) then (some (rd_L3 (rd_L4 l0_0 a2_0) (wrap64 ((wrap64 (a2_1 * bt342.1)) + a2_2)))) else (none)) else (none)) else (none)) else (none))
set_option maxHeartbeats 8000000 in
set_option maxRecDepth 100000 in
theorem impl_Coefs_at.calls (k : Nat) (P0_0_ : Nat → Prop) (A0_0 : Option Addr) (c0_0 : Nat) (l0_0 : List (List (List Int))) (a1_0 : Int) (a1_1 : Int) (a1_2 : Int) (a1_3 : Int) (A1_4 : Option Addr) (c1_4 : Nat) (l1_4 : List (S42)) (a2_0 : Int) (a2_1 : Int) (a2_2 : Int) (r : List Int) (w : World) (hs0_0 : Kd.V (Kd.slice 22 (Kd.slice 3 (Kd.int .i64))) 49 w w.heap.size (fun k_ => P0_0_ k_) (.slice A0_0 l0_0.length c0_0) l0_0) (hr1_4 : Kd.C k42 w A1_4 l1_4.length l1_4) (hc1_4 : l1_4.length ≤ c1_4) (h : impl_Coefs_at.f k l0_0 a1_0 a1_1 a1_2 a1_3 l1_4 a2_0 a2_1 a2_2 = some r) :
  Calls Try.prog 116 #[.agg #[.slice A0_0 l0_0.length c0_0], .agg #[.int .i64 a1_0, .int .i64 a1_1, .int .i64 a1_2, .int .i64 a1_3, .slice A1_4 l1_4.length c1_4], .agg #[.int .i64 a2_0, .int .i64 a2_1, .int .i64 a2_2]] w fun e w' => ∃ v0_ : Value, e = .returned (v0_) ∧ Kd.V (Kd.int .i64) 3 w' w.heap.size (fun k_ => (P0_0_ k_ ∨ w.heap.size ≤ k_)) v0_ r ∧ Below w.heap.size w w' := by
 have hu63 := Try.underlying63
 have hu45 := Try.underlying45
 have hu87 := Try.underlying87
 have HO0_0 := aM (show Kd.V (Kd.slice 22 (Kd.slice 3 (Kd.int .i64))) 49 w w.heap.size (fun k_ => (P0_0_ k_ ∨ w.heap.size ≤ k_)) (.slice A0_0 l0_0.length c0_0) l0_0 from Kd.V_mono hs0_0 (fun k_ hk => .inl hk))
 have HR1_4 := aM hr1_4
 have HC1_4 := aM hc1_4
 clear hr1_4 hc1_4
 have HB := aM (Below.refl w.heap.size w)
 have H : ((impl_Frame_blocks.f k a1_0 a1_1 a1_2 a1_3 l1_4 a2_0).bind fun bt342 => (if 0 ≤ a2_0 then (if a2_0 < (l0_0.length : Int) then (if 0 ≤ (wrap64 ((wrap64 (a2_1 * bt342.1)) + a2_2)) then (if (wrap64 ((wrap64 (a2_1 * bt342.1)) + a2_2)) < ((rd_L4 l0_0 a2_0).length : Int) then (some (rd_L3 (rd_L4 l0_0 a2_0) (wrap64 ((wrap64 (a2_1 * bt342.1)) + a2_2)))) else (none)) else (none)) else (none)) else (none))) = some r := h
 clear h
 replace H := oB H
 obtain ⟨⟨t342, t343⟩, A40, H⟩ := H
 replace H : (if 0 ≤ a2_0 then (if a2_0 < (l0_0.length : Int) then (if 0 ≤ (wrap64 ((wrap64 (a2_1 * t342)) + a2_2)) then (if (wrap64 ((wrap64 (a2_1 * t342)) + a2_2)) < ((rd_L4 l0_0 a2_0).length : Int) then (some (rd_L3 (rd_L4 l0_0 a2_0) (wrap64 ((wrap64 (a2_1 * t342)) + a2_2)))) else (none)) else (none)) else (none)) else (none)) = some r := H
 have A4 := aM A40
 clear A40
 by_cases c5 : 0 ≤ a2_0
 ·rw [if_pos c5] at H
  have c5b0 : decide (0 ≤ a2_0) = true := decide_eq_true c5
  clear c5
  by_cases c6 : a2_0 < (l0_0.length : Int)
  ·rw [if_pos c6] at H
   have c6b0 : decide (a2_0 < (l0_0.length : Int)) = true := decide_eq_true c6
   clear c6
   obtain ⟨ji7, hji7⟩ : ∃ j_ : Int, (wrap64 ((wrap64 (a2_1 * t342)) + a2_2)) = j_ := ⟨_, rfl⟩
   replace H : (if 0 ≤ (ji7) then (if (ji7) < ((rd_L4 l0_0 a2_0).length : Int) then (some (rd_L3 (rd_L4 l0_0 a2_0) (ji7))) else (none)) else (none)) = some r := by first | (rw [hji7] at H; exact H) | (simp only [hji7] at H ⊢; exact H)
   (try rw [hji7] at A4)
   have hji7w : (IntKind.i64.wrap ((wrap64 (a2_1 * t342)) + a2_2)) = ji7 := (i64_w _).trans hji7
   by_cases c8 : 0 ≤ (ji7)
   ·rw [if_pos c8] at H
    have c8b0 : decide (0 ≤ (ji7)) = true := decide_eq_true c8
    clear c8
    by_cases c9 : (ji7) < ((rd_L4 l0_0 a2_0).length : Int)
    ·rw [if_pos c9] at H
     have c9b0 : decide ((ji7) < ((rd_L4 l0_0 a2_0).length : Int)) = true := decide_eq_true c9
     clear c9
     obtain rfl := Option.some.inj H
     go_enter Try.func116, Try.ntmps116
     repeat (go_wp2_with (first | ((with_reducible refine gate_dst (N := 3) rfl ?_); refine box_event ?hg (N := 3) ?hd (cs := #[.slice A0_0 l0_0.length c0_0]) (t := 63) ?hr ?_; (case hd => rfl); (case hg => rfl); (case hr => first | (go_simp; done) | (go_simp; rfl)); intro gb339 hg w10 hbox hb; replace HO0_0 := aM (Kd.V_below (Kd.V_elderB (by (with_reducible repeat (first | apply Kd.V_alloc | apply Kd.V_drewN | apply Kd.V_drew)); exact HO0_0.out) gb339 (Nat.le_of_eq hg.symm)) hb); have BK339 := aM hbox; have GW339 := aM (zG hg : w.heap.size ≤ gb339); have GE339 := aM (zG hg : w.heap.size ≤ gb339); replace HB := cH HB hb; clear hb hbox hg) | ((with_reducible refine gate_dst (N := 4) rfl ?_); refine box_event ?hg (N := 4) ?hd (cs := #[.int .i64 a1_0, .int .i64 a1_1, .int .i64 a1_2, .int .i64 a1_3, .slice A1_4 l1_4.length c1_4]) (t := 45) ?hr ?_; (case hd => rfl); (case hg => rfl); (case hr => first | (go_simp; done) | (go_simp; rfl)); intro gb340 hg w11 hbox hb; replace HO0_0 := aM (Kd.V_below (Kd.V_elderB (by (with_reducible repeat (first | apply Kd.V_alloc | apply Kd.V_drewN | apply Kd.V_drew)); exact HO0_0.out) gb340 (Nat.le_of_eq hg.symm)) hb); have BK340 := aM hbox; have GW340 := aM (zG hg : w.heap.size ≤ gb340); have GE340 := aM (zG hg : w.heap.size ≤ gb340); replace HB := cH HB hb; have NB339_340 := aM ((zL hg BK339)); have NB340_339 := aM ((zM hg BK339)); replace BK339 := cB BK339 hb; clear hb hbox hg) | ((with_reducible refine gate_dst (N := 5) rfl ?_); refine box_event ?hg (N := 5) ?hd (cs := #[.int .i64 a2_0, .int .i64 a2_1, .int .i64 a2_2]) (t := 87) ?hr ?_; (case hd => rfl); (case hg => rfl); (case hr => first | (go_simp; done) | (go_simp; rfl)); intro gb341 hg w12 hbox hb; replace HO0_0 := aM (Kd.V_below (Kd.V_elderB (by (with_reducible repeat (first | apply Kd.V_alloc | apply Kd.V_drewN | apply Kd.V_drew)); exact HO0_0.out) gb341 (Nat.le_of_eq hg.symm)) hb); have BK341 := aM hbox; have GW341 := aM (zG hg : w.heap.size ≤ gb341); have GE341 := aM (zG hg : w.heap.size ≤ gb341); replace HB := cH HB hb; have NB339_341 := aM ((zL hg BK339)); have NB341_339 := aM ((zM hg BK339)); replace BK339 := cB BK339 hb; have NB340_341 := aM ((zL hg BK340)); have NB341_340 := aM ((zM hg BK340)); replace BK340 := cB BK340 hb; clear hb hbox hg; have hnb13 := NB340_339.out; have hnc13 := NB339_340.out; have hnb14 := NB340_341.out; have hnc14 := NB341_340.out; obtain ⟨hcz15_0, hcz15_1, hcz15_2, hcz15_3, hcz15_4⟩ := kk5 BK340; obtain ⟨hfz15_0, hfz15_1, hfz15_2, hfz15_3, hfz15_4⟩ := kg5 BK340; have hnb16 := NB341_339.out; have hnc16 := NB339_341.out; obtain ⟨hcz17_0, hcz17_1, hcz17_2⟩ := kk3 BK341; obtain ⟨hfz17_0, hfz17_1, hfz17_2⟩ := kg3 BK341) | (go_at_call 109; (with_reducible refine (impl_Frame_blocks.calls k a1_0 a1_1 a1_2 a1_3 _ _ l1_4 a2_0 t342 t343 _ ?side1 ?side2 A4.out).mono ?_); (case side1 => exact zC (Kd.C_below HR1_4.out HB.out)); (case side2 => exact HC1_4.out); rintro e w18 ⟨rfl, hb⟩; replace HO0_0 := aM (Kd.V_below (by (with_reducible repeat (first | apply Kd.V_alloc | apply Kd.V_drewN | apply Kd.V_drew)); exact HO0_0.out) hb); replace BK339 := cB BK339 hb; replace BK340 := cB BK340 hb; replace BK341 := cB BK341 hb; replace HB := cH HB hb; (try clear hb); have hcz19_0 := kk1 BK339; have hfz19_0 := kg1 BK339; obtain ⟨hcz20_0, hcz20_1, hcz20_2⟩ := kk3 BK341; obtain ⟨hfz20_0, hfz20_1, hfz20_2⟩ := kg3 BK341; have p344 : 0 ≤ (a2_0 : Int) := zA; have q344 : a2_0 < (l0_0.length : Int) := zA; obtain ⟨ad344, A344_0, c344_0, e344, hx344_0, hl344_0, hi344_0⟩ := at_L4 (Kd.V_reads' HO0_0.out).2.2 a2_0 p344 q344; cases e344; obtain ⟨ce344, hce344, hMe344, hcc344⟩ := Kd.V_get HO0_0.out [] a2_0 p344 (by first | exact q344 | exact zA | (have e_ := (Kd.V_reads' HO0_0.out).1; omega)); obtain ⟨ua344_0, uc344_0, rfl, ul344_0, ge344_0⟩ := Kd.FK_slice_open hMe344; have hv344_0 := hcc344 0 _ rfl; rw [Nat.add_zero, show ((Kd.slice 22 (Kd.slice 3 (Kd.int .i64)))).sz = 1 from rfl, Nat.mul_one] at hv344_0; replace hv344_0 := Option.some.inj (hv344_0.symm.trans hx344_0); injection hv344_0 with hva_ hvn_ hvc_; rw [hva_] at ge344_0; rw [hvc_] at ul344_0; have HL344_0 := aM (show Kd.V (Kd.slice 3 (Kd.int .i64)) 22 _ w.heap.size _ _ (rd_L4 l0_0 a2_0) from Kd.V_mk ul344_0 ge344_0); clear hva_ hvn_ hvc_ ge344_0 ul344_0; clear hcc344 hce344; have HR344_0 := aM hi344_0; have HC344_0 := aM hl344_0; clear hi344_0 hl344_0; replace p344 := eq_true p344; replace q344 := eq_true q344; have p345 : 0 ≤ ((ji7) : Int) := zA; have q345 : (ji7) < ((rd_L4 l0_0 a2_0).length : Int) := zA; obtain ⟨ad345, A345_0, c345_0, e345, hx345_0, hl345_0, hi345_0⟩ := at_L3 (by repeat (first | (with_reducible exact HR344_0.out) | (with_reducible first | refine Kd.C_alloc ?_ _ | refine Kd.C_drewN ?_ _ | refine Kd.C_drew ?_) | exact HR344_0.out)) (ji7) p345 q345; cases e345; obtain ⟨ce345, hce345, hMe345, hcc345⟩ := Kd.V_get HL344_0.out [] (ji7) p345 (by first | exact q345 | exact zA | (have e_ := (Kd.V_reads' HL344_0.out).1; omega)); obtain ⟨ua345_0, uc345_0, rfl, ul345_0, ge345_0⟩ := Kd.FK_slice_open hMe345; have hv345_0 := hcc345 0 _ rfl; rw [Nat.add_zero, show ((Kd.slice 3 (Kd.int .i64))).sz = 1 from rfl, Nat.mul_one] at hv345_0; replace hv345_0 := Option.some.inj (hv345_0.symm.trans hx345_0); injection hv345_0 with hva_ hvn_ hvc_; rw [hva_] at ge345_0; rw [hvc_] at ul345_0; have HL345_0 := aM (show Kd.V (Kd.int .i64) 3 _ w.heap.size _ _ (rd_L3 (rd_L4 l0_0 a2_0) (ji7)) from Kd.V_mk ul345_0 ge345_0); clear hva_ hvn_ hvc_ ge345_0 ul345_0; clear hcc345 hce345; have HR345_0 := aM hi345_0; have HC345_0 := aM hl345_0; clear hi345_0 hl345_0; replace p345 := eq_true p345; replace q345 := eq_true q345)); go_quiet (fail))
     try go_wp2_with (first | ((with_reducible refine gate_dst (N := 3) rfl ?_); refine box_event ?hg (N := 3) ?hd (cs := #[.slice A0_0 l0_0.length c0_0]) (t := 63) ?hr ?_; (case hd => rfl); (case hg => rfl); (case hr => first | (go_simp; done) | (go_simp; rfl)); intro gb339 hg w10 hbox hb; replace HO0_0 := aM (Kd.V_below (Kd.V_elderB (by (with_reducible repeat (first | apply Kd.V_alloc | apply Kd.V_drewN | apply Kd.V_drew)); exact HO0_0.out) gb339 (Nat.le_of_eq hg.symm)) hb); have BK339 := aM hbox; have GW339 := aM (zG hg : w.heap.size ≤ gb339); have GE339 := aM (zG hg : w.heap.size ≤ gb339); replace HB := cH HB hb; clear hb hbox hg) | ((with_reducible refine gate_dst (N := 4) rfl ?_); refine box_event ?hg (N := 4) ?hd (cs := #[.int .i64 a1_0, .int .i64 a1_1, .int .i64 a1_2, .int .i64 a1_3, .slice A1_4 l1_4.length c1_4]) (t := 45) ?hr ?_; (case hd => rfl); (case hg => rfl); (case hr => first | (go_simp; done) | (go_simp; rfl)); intro gb340 hg w11 hbox hb; replace HO0_0 := aM (Kd.V_below (Kd.V_elderB (by (with_reducible repeat (first | apply Kd.V_alloc | apply Kd.V_drewN | apply Kd.V_drew)); exact HO0_0.out) gb340 (Nat.le_of_eq hg.symm)) hb); have BK340 := aM hbox; have GW340 := aM (zG hg : w.heap.size ≤ gb340); have GE340 := aM (zG hg : w.heap.size ≤ gb340); replace HB := cH HB hb; have NB339_340 := aM ((zL hg BK339)); have NB340_339 := aM ((zM hg BK339)); replace BK339 := cB BK339 hb; clear hb hbox hg) | ((with_reducible refine gate_dst (N := 5) rfl ?_); refine box_event ?hg (N := 5) ?hd (cs := #[.int .i64 a2_0, .int .i64 a2_1, .int .i64 a2_2]) (t := 87) ?hr ?_; (case hd => rfl); (case hg => rfl); (case hr => first | (go_simp; done) | (go_simp; rfl)); intro gb341 hg w12 hbox hb; replace HO0_0 := aM (Kd.V_below (Kd.V_elderB (by (with_reducible repeat (first | apply Kd.V_alloc | apply Kd.V_drewN | apply Kd.V_drew)); exact HO0_0.out) gb341 (Nat.le_of_eq hg.symm)) hb); have BK341 := aM hbox; have GW341 := aM (zG hg : w.heap.size ≤ gb341); have GE341 := aM (zG hg : w.heap.size ≤ gb341); replace HB := cH HB hb; have NB339_341 := aM ((zL hg BK339)); have NB341_339 := aM ((zM hg BK339)); replace BK339 := cB BK339 hb; have NB340_341 := aM ((zL hg BK340)); have NB341_340 := aM ((zM hg BK340)); replace BK340 := cB BK340 hb; clear hb hbox hg; have hnb13 := NB340_339.out; have hnc13 := NB339_340.out; have hnb14 := NB340_341.out; have hnc14 := NB341_340.out; obtain ⟨hcz15_0, hcz15_1, hcz15_2, hcz15_3, hcz15_4⟩ := kk5 BK340; obtain ⟨hfz15_0, hfz15_1, hfz15_2, hfz15_3, hfz15_4⟩ := kg5 BK340; have hnb16 := NB341_339.out; have hnc16 := NB339_341.out; obtain ⟨hcz17_0, hcz17_1, hcz17_2⟩ := kk3 BK341; obtain ⟨hfz17_0, hfz17_1, hfz17_2⟩ := kg3 BK341) | (go_at_call 109; (with_reducible refine (impl_Frame_blocks.calls k a1_0 a1_1 a1_2 a1_3 _ _ l1_4 a2_0 t342 t343 _ ?side1 ?side2 A4.out).mono ?_); (case side1 => exact zC (Kd.C_below HR1_4.out HB.out)); (case side2 => exact HC1_4.out); rintro e w18 ⟨rfl, hb⟩; replace HO0_0 := aM (Kd.V_below (by (with_reducible repeat (first | apply Kd.V_alloc | apply Kd.V_drewN | apply Kd.V_drew)); exact HO0_0.out) hb); replace BK339 := cB BK339 hb; replace BK340 := cB BK340 hb; replace BK341 := cB BK341 hb; replace HB := cH HB hb; (try clear hb); have hcz19_0 := kk1 BK339; have hfz19_0 := kg1 BK339; obtain ⟨hcz20_0, hcz20_1, hcz20_2⟩ := kk3 BK341; obtain ⟨hfz20_0, hfz20_1, hfz20_2⟩ := kg3 BK341; have p344 : 0 ≤ (a2_0 : Int) := zA; have q344 : a2_0 < (l0_0.length : Int) := zA; obtain ⟨ad344, A344_0, c344_0, e344, hx344_0, hl344_0, hi344_0⟩ := at_L4 (Kd.V_reads' HO0_0.out).2.2 a2_0 p344 q344; cases e344; obtain ⟨ce344, hce344, hMe344, hcc344⟩ := Kd.V_get HO0_0.out [] a2_0 p344 (by first | exact q344 | exact zA | (have e_ := (Kd.V_reads' HO0_0.out).1; omega)); obtain ⟨ua344_0, uc344_0, rfl, ul344_0, ge344_0⟩ := Kd.FK_slice_open hMe344; have hv344_0 := hcc344 0 _ rfl; rw [Nat.add_zero, show ((Kd.slice 22 (Kd.slice 3 (Kd.int .i64)))).sz = 1 from rfl, Nat.mul_one] at hv344_0; replace hv344_0 := Option.some.inj (hv344_0.symm.trans hx344_0); injection hv344_0 with hva_ hvn_ hvc_; rw [hva_] at ge344_0; rw [hvc_] at ul344_0; have HL344_0 := aM (show Kd.V (Kd.slice 3 (Kd.int .i64)) 22 _ w.heap.size _ _ (rd_L4 l0_0 a2_0) from Kd.V_mk ul344_0 ge344_0); clear hva_ hvn_ hvc_ ge344_0 ul344_0; clear hcc344 hce344; have HR344_0 := aM hi344_0; have HC344_0 := aM hl344_0; clear hi344_0 hl344_0; replace p344 := eq_true p344; replace q344 := eq_true q344; have p345 : 0 ≤ ((ji7) : Int) := zA; have q345 : (ji7) < ((rd_L4 l0_0 a2_0).length : Int) := zA; obtain ⟨ad345, A345_0, c345_0, e345, hx345_0, hl345_0, hi345_0⟩ := at_L3 (by repeat (first | (with_reducible exact HR344_0.out) | (with_reducible first | refine Kd.C_alloc ?_ _ | refine Kd.C_drewN ?_ _ | refine Kd.C_drew ?_) | exact HR344_0.out)) (ji7) p345 q345; cases e345; obtain ⟨ce345, hce345, hMe345, hcc345⟩ := Kd.V_get HL344_0.out [] (ji7) p345 (by first | exact q345 | exact zA | (have e_ := (Kd.V_reads' HL344_0.out).1; omega)); obtain ⟨ua345_0, uc345_0, rfl, ul345_0, ge345_0⟩ := Kd.FK_slice_open hMe345; have hv345_0 := hcc345 0 _ rfl; rw [Nat.add_zero, show ((Kd.slice 3 (Kd.int .i64))).sz = 1 from rfl, Nat.mul_one] at hv345_0; replace hv345_0 := Option.some.inj (hv345_0.symm.trans hx345_0); injection hv345_0 with hva_ hvn_ hvc_; rw [hva_] at ge345_0; rw [hvc_] at ul345_0; have HL345_0 := aM (show Kd.V (Kd.int .i64) 3 _ w.heap.size _ _ (rd_L3 (rd_L4 l0_0 a2_0) (ji7)) from Kd.V_mk ul345_0 ge345_0); clear hva_ hvn_ hvc_ ge345_0 ul345_0; clear hcc345 hce345; have HR345_0 := aM hi345_0; have HC345_0 := aM hl345_0; clear hi345_0 hl345_0; replace p345 := eq_true p345; replace q345 := eq_true q345))
     go_ret
     exact ⟨_, by first | rfl | (simp [errW_none, errW_some] <;> rfl) | (simp only [← hji7]; first | rfl | (simp [errW_none, errW_some] <;> rfl)) | (simp [*, errW_none, errW_some] <;> rfl), by (with_reducible repeat (first | apply Kd.V_alloc | apply Kd.V_drewN | apply Kd.V_drew)); exact Kd.V_mono HL345_0.out (fun _ hk => hk.1.1.1), zH⟩
    ·rw [if_neg c9] at H
     exact absurd H (by simp)
   ·rw [if_neg c8] at H
    exact absurd H (by simp)
  ·rw [if_neg c6] at H
   exact absurd H (by simp)
 ·rw [if_neg c5] at H
  exact absurd H (by simp)

/-! ### impl_BlockAt: function 68 -/
def impl_BlockAt.j0 : Nat → Bool → Int → Int → Int → Int → List (S42) → List (List (List Int)) → Int → Int → Int → Option (List Int)
  | 0, _, _, _, _, _, _, _, _, _, _ => none
  | k + 1, x16, x347000, x347001, x347002, x347003, x347004, x348000, x349000, x349001, x349002 => if x16 = true then (some ([] : List Int)) else ((impl_Coefs_at.f k x348000 x347000 x347001 x347002 x347003 x347004 x349000 x349001 x349002).bind fun t351 => ((slices_Clone_int_int.f t351).bind fun t354 => (some t354)))
def impl_BlockAt.f (k : Nat) (a0_0 : Int) (a0_1 : Int) (a0_2 : Int) (a0_3 : Int) (l0_4 : List (S42)) (l1_0 : List (List (List Int))) (a2_0 : Int) (a2_1 : Int) (a2_2 : Int) : Option (List Int) := (impl_CoefsOk.f k a0_0 a0_1 a0_2 a0_3 l0_4 l1_0).bind fun t349 => (if t349 = true then ((impl_Frame_isPlace.f k a0_0 a0_1 a0_2 a0_3 l0_4 a2_0 a2_1 a2_2).bind fun t350 => (impl_BlockAt.j0 k (!t350) a0_0 a0_1 a0_2 a0_3 l0_4 l1_0 a2_0 a2_1 a2_2)) else (impl_BlockAt.j0 k true a0_0 a0_1 a0_2 a0_3 l0_4 l1_0 a2_0 a2_1 a2_2))
set_option maxHeartbeats 8000000 in
set_option maxRecDepth 100000 in
theorem impl_BlockAt.calls (k : Nat) (a0_0 : Int) (a0_1 : Int) (a0_2 : Int) (a0_3 : Int) (A0_4 : Option Addr) (c0_4 : Nat) (l0_4 : List (S42)) (A1_0 : Option Addr) (c1_0 : Nat) (l1_0 : List (List (List Int))) (a2_0 : Int) (a2_1 : Int) (a2_2 : Int) (r : List Int) (w : World) (hr0_4 : Kd.C k42 w A0_4 l0_4.length l0_4) (hc0_4 : l0_4.length ≤ c0_4) (hr1_0 : Kd.C (Kd.slice 22 (Kd.slice 3 (Kd.int .i64))) w A1_0 l1_0.length l1_0) (hc1_0 : l1_0.length ≤ c1_0) (h : impl_BlockAt.f k a0_0 a0_1 a0_2 a0_3 l0_4 l1_0 a2_0 a2_1 a2_2 = some r) :
  Calls Try.prog 68 #[.agg #[.int .i64 a0_0, .int .i64 a0_1, .int .i64 a0_2, .int .i64 a0_3, .slice A0_4 l0_4.length c0_4], .agg #[.slice A1_0 l1_0.length c1_0], .agg #[.int .i64 a2_0, .int .i64 a2_1, .int .i64 a2_2]] w fun e w' => ∃ v0_ : Value, e = .returned (v0_) ∧ Kd.R (Kd.int .i64) 3 w' w.heap.size (fun _ => True) v0_ r ∧ Below w.heap.size w w' := by
 have hu45 := Try.underlying45
 have hu63 := Try.underlying63
 have hu87 := Try.underlying87
 have HR0_4 := aM hr0_4
 have HC0_4 := aM hc0_4
 clear hr0_4 hc0_4
 have HR1_0 := aM hr1_0
 have HC1_0 := aM hc1_0
 clear hr1_0 hc1_0
 have HB := aM (Below.refl w.heap.size w)
 have H : ((impl_CoefsOk.f k a0_0 a0_1 a0_2 a0_3 l0_4 l1_0).bind fun t349 => (if t349 = true then ((impl_Frame_isPlace.f k a0_0 a0_1 a0_2 a0_3 l0_4 a2_0 a2_1 a2_2).bind fun t350 => (impl_BlockAt.j0 k (!t350) a0_0 a0_1 a0_2 a0_3 l0_4 l1_0 a2_0 a2_1 a2_2)) else (impl_BlockAt.j0 k true a0_0 a0_1 a0_2 a0_3 l0_4 l1_0 a2_0 a2_1 a2_2))) = some r := h
 clear h
 have HC4 := aM H
 clear H
 go_enter Try.func68, Try.ntmps68
 go_upto_region 1 with (first | ((with_reducible refine gate_dst (N := 3) rfl ?_); refine box_event ?hg (N := 3) ?hd (cs := #[.int .i64 a0_0, .int .i64 a0_1, .int .i64 a0_2, .int .i64 a0_3, .slice A0_4 l0_4.length c0_4]) (t := 45) ?hr ?_; (case hd => rfl); (case hg => rfl); (case hr => first | (go_simp; done) | (go_simp; rfl)); intro gb346 hg w5 hbox hb; have BK346 := aM hbox; have GW346 := aM (zG hg : w.heap.size ≤ gb346); have GE346 := aM (zG hg : w.heap.size ≤ gb346); replace HB := cH HB hb; clear hb hbox hg) | ((with_reducible refine gate_dst (N := 4) rfl ?_); refine box_event ?hg (N := 4) ?hd (cs := #[.slice A1_0 l1_0.length c1_0]) (t := 63) ?hr ?_; (case hd => rfl); (case hg => rfl); (case hr => first | (go_simp; done) | (go_simp; rfl)); intro gb347 hg w6 hbox hb; have BK347 := aM hbox; have GW347 := aM (zG hg : w.heap.size ≤ gb347); have GE347 := aM (zG hg : w.heap.size ≤ gb347); replace HB := cH HB hb; have NB346_347 := aM ((zL hg BK346)); have NB347_346 := aM ((zM hg BK346)); replace BK346 := cB BK346 hb; clear hb hbox hg) | ((with_reducible refine gate_dst (N := 5) rfl ?_); refine box_event ?hg (N := 5) ?hd (cs := #[.int .i64 a2_0, .int .i64 a2_1, .int .i64 a2_2]) (t := 87) ?hr ?_; (case hd => rfl); (case hg => rfl); (case hr => first | (go_simp; done) | (go_simp; rfl)); intro gb348 hg w7 hbox hb; have BK348 := aM hbox; have GW348 := aM (zG hg : w.heap.size ≤ gb348); have GE348 := aM (zG hg : w.heap.size ≤ gb348); replace HB := cH HB hb; have NB346_348 := aM ((zL hg BK346)); have NB348_346 := aM ((zM hg BK346)); replace BK346 := cB BK346 hb; have NB347_348 := aM ((zL hg BK347)); have NB348_347 := aM ((zM hg BK347)); replace BK347 := cB BK347 hb; clear hb hbox hg))
 (try simp only [Act.put, List.setIfInBounds_toArray, List.set_cons_zero, List.set_cons_succ])
 go_cut [16] (fun v16 wc => ∃ (kq : Nat) (x16_3 : Bool), v16 = .bool x16_3 ∧ Aside0 (impl_BlockAt.j0 kq x16_3 a0_0 a0_1 a0_2 a0_3 l0_4 l1_0 a2_0 a2_1 a2_2 = some r) ∧ Aside0 (kq ≤ k) ∧ Aside0 (wc.heap[gb346]? = some (.cells #[.int .i64 a0_0, .int .i64 a0_1, .int .i64 a0_2, .int .i64 a0_3, (.slice A0_4 l0_4.length c0_4)] 45 (0, 0))) ∧ Aside0 (wc.heap[gb347]? = some (.cells #[(.slice A1_0 l1_0.length c1_0)] 63 (0, 0))) ∧ Aside0 (wc.heap[gb348]? = some (.cells #[.int .i64 a2_0, .int .i64 a2_1, .int .i64 a2_2] 87 (0, 0))) ∧ Aside0 (Below w.heap.size w wc))
 case first =>
  have H := HC4.out
  clear HC4
  obtain ⟨t349, A8, H⟩ := oH H
  by_cases c9 : t349 = true
  ·subst c9
   replace H := iT H
   obtain ⟨t350, A10, H⟩ := oH H
   have H' := aM H
   clear H
   have hnb11 := NB346_347.out
   have hnc11 := NB347_346.out
   have hnb12 := NB346_348.out
   have hnc12 := NB348_346.out
   obtain ⟨hcz13_0, hcz13_1, hcz13_2, hcz13_3, hcz13_4⟩ := kk5 BK346
   obtain ⟨hfz13_0, hfz13_1, hfz13_2, hfz13_3, hfz13_4⟩ := kg5 BK346
   have hnb14 := NB347_348.out
   have hnc14 := NB348_347.out
   have hcz15_0 := kk1 BK347
   have hfz15_0 := kg1 BK347
   go_wp2_with (first | (go_at_call 57; (with_reducible refine (impl_CoefsOk.calls k a0_0 a0_1 a0_2 a0_3 _ _ l0_4 _ _ l1_0 true _ ?side1 ?side2 ?side3 ?side4 A8.out).mono ?_); (case side1 => exact zC (Kd.C_below HR0_4.out HB.out)); (case side2 => exact HC0_4.out); (case side3 => exact zC (Kd.C_below HR1_0.out HB.out)); (case side4 => exact HC1_0.out); rintro e w16 ⟨rfl, hb⟩; replace BK346 := cB BK346 hb; replace BK347 := cB BK347 hb; replace BK348 := cB BK348 hb; replace HB := cH HB hb; (try clear hb); obtain ⟨hcz17_0, hcz17_1, hcz17_2, hcz17_3, hcz17_4⟩ := kk5 BK346; obtain ⟨hfz17_0, hfz17_1, hfz17_2, hfz17_3, hfz17_4⟩ := kg5 BK346; obtain ⟨hcz18_0, hcz18_1, hcz18_2⟩ := kk3 BK348; obtain ⟨hfz18_0, hfz18_1, hfz18_2⟩ := kg3 BK348) | (go_at_call 115; (with_reducible refine (impl_Frame_isPlace.calls k a0_0 a0_1 a0_2 a0_3 _ _ l0_4 a2_0 a2_1 a2_2 t350 _ ?side1 ?side2 A10.out).mono ?_); (case side1 => exact zC (Kd.C_below HR0_4.out HB.out)); (case side2 => exact HC0_4.out); rintro e w19 ⟨rfl, hb⟩; replace BK346 := cB BK346 hb; replace BK347 := cB BK347 hb; replace BK348 := cB BK348 hb; replace HB := cH HB hb; (try clear hb)))
   go_meet
   case rel => exact ⟨_, (!t350), zS, H', zO, ⟨zK BK346⟩, ⟨zK BK347⟩, ⟨zK BK348⟩, ⟨zH⟩⟩
  ·replace c9 := Bool.eq_false_iff.mpr c9
   subst c9
   replace H := iF H
   have H' := aM H
   clear H
   have hnb20 := NB346_347.out
   have hnc20 := NB347_346.out
   have hnb21 := NB346_348.out
   have hnc21 := NB348_346.out
   obtain ⟨hcz22_0, hcz22_1, hcz22_2, hcz22_3, hcz22_4⟩ := kk5 BK346
   obtain ⟨hfz22_0, hfz22_1, hfz22_2, hfz22_3, hfz22_4⟩ := kg5 BK346
   have hnb23 := NB347_348.out
   have hnc23 := NB348_347.out
   have hcz24_0 := kk1 BK347
   have hfz24_0 := kg1 BK347
   go_wp2_with (first | (go_at_call 57; (with_reducible refine (impl_CoefsOk.calls k a0_0 a0_1 a0_2 a0_3 _ _ l0_4 _ _ l1_0 false _ ?side1 ?side2 ?side3 ?side4 A8.out).mono ?_); (case side1 => exact zC (Kd.C_below HR0_4.out HB.out)); (case side2 => exact HC0_4.out); (case side3 => exact zC (Kd.C_below HR1_0.out HB.out)); (case side4 => exact HC1_0.out); rintro e w25 ⟨rfl, hb⟩; replace BK346 := cB BK346 hb; replace BK347 := cB BK347 hb; replace BK348 := cB BK348 hb; replace HB := cH HB hb; (try clear hb)))
   go_meet
   case rel => exact ⟨_, (true), zS, H', zO, ⟨zK BK346⟩, ⟨zK BK347⟩, ⟨zK BK348⟩, ⟨zH⟩⟩
 case rest =>
  clear HC4
  obtain ⟨kq, x16_3, rfl, HA, HJ3, BK346, BK347, BK348, HB⟩ := hcut
  cases kq with
  | zero => exact absurd HA.out (by simp [impl_BlockAt.j0])
  | succ kj3 =>
   have H := HA.out
   clear HA
   simp only [impl_BlockAt.j0] at H
   by_cases c26 : x16_3 = true
   ·subst c26
    replace H := iT H
    obtain rfl := Option.some.inj H
    go_wp2
    go_ret
    exact ⟨_, zR, by first | exact Kd.R_nil _ _ _ _ _ | exact Kd.N_nil _ _ _ _ _ | exact Kd.V_nil _ _ _ _ _ | exact Kd.Q_nil _ _ _ _ _ | exact Kd.S_nil _ _ _ _ _, zH⟩
   ·replace c26 := Bool.eq_false_iff.mpr c26
    subst c26
    replace H := iF H
    obtain ⟨t351, A27, H⟩ := oH H
    obtain ⟨t354, A28, H⟩ := oH H
    obtain rfl := Option.some.inj H
    have hnb29 := NB347_346.out
    have hnc29 := NB346_347.out
    have hnb30 := NB347_348.out
    have hnc30 := NB348_347.out
    have hcz31_0 := kk1 BK347
    have hfz31_0 := kg1 BK347
    have hnb32 := NB346_348.out
    have hnc32 := NB348_346.out
    obtain ⟨hcz33_0, hcz33_1, hcz33_2, hcz33_3, hcz33_4⟩ := kk5 BK346
    obtain ⟨hfz33_0, hfz33_1, hfz33_2, hfz33_3, hfz33_4⟩ := kg5 BK346
    obtain ⟨hcz34_0, hcz34_1, hcz34_2⟩ := kk3 BK348
    obtain ⟨hfz34_0, hfz34_1, hfz34_2⟩ := kg3 BK348
    go_wp2_with (first | (go_at_call 116; (with_reducible refine (impl_Coefs_at.calls kj3 (fun k_ => k_ < w.heap.size) _ _ l1_0 a0_0 a0_1 a0_2 a0_3 _ _ l0_4 a2_0 a2_1 a2_2 t351 _ ?side1 ?side2 ?side3 A27.out).mono ?_); (case side1 => exact Kd.V_mk HC1_0.out (Kd.F_below (Kd.C_F (Kd.heap_slice 22 (Kd.heap_slice 3 (Kd.heap_int .i64))) HR1_0.out) zH)); (case side2 => exact zC (Kd.C_below HR0_4.out HB.out)); (case side3 => exact HC0_4.out); rintro e w35 ⟨v352, rfl, ho0, hb⟩; have HO353 := aM (Kd.V_lower (Kd.V_mono (ok' := fun k_ => k_ ≠ gb346 ∧ k_ ≠ gb347 ∧ k_ ≠ gb348) ho0 (fun k_ hk_ => ⟨Or.elim hk_ (fun hs_ => fun e_ => Nat.not_le.2 hs_ (by rw [e_]; exact GW346.out)) (fun hn_ => (Kd.freshB (g := gb346) (o := .cells #[.int .i64 a0_0, .int .i64 a0_1, .int .i64 a0_2, .int .i64 a0_3, .slice A0_4 l0_4.length c0_4] 45 (0, 0)) (zK BK346) k_ hn_)), Or.elim hk_ (fun hs_ => fun e_ => Nat.not_le.2 hs_ (by rw [e_]; exact GW347.out)) (fun hn_ => (Kd.freshB (g := gb347) (o := .cells #[.slice A1_0 l1_0.length c1_0] 63 (0, 0)) (zK BK347) k_ hn_)), Or.elim hk_ (fun hs_ => fun e_ => Nat.not_le.2 hs_ (by rw [e_]; exact GW348.out)) (fun hn_ => (Kd.freshB (g := gb348) (o := .cells #[.int .i64 a2_0, .int .i64 a2_1, .int .i64 a2_2] 87 (0, 0)) (zK BK348) k_ hn_))⟩)) (below_size zH)); replace BK346 := cB BK346 hb; replace BK347 := cB BK347 hb; replace BK348 := cB BK348 hb; replace HB := cH HB hb; (try clear hb); (try clear ho0); obtain ⟨Ao36, co36, eo36⟩ := Kd.V_slice HO353.out; subst eo36) | (go_at_call 104; (with_reducible refine (slices_Clone_int_int.calls _ _ t351 t354 _ ?side1 ?side2 A28.out).mono ?_); (case side1 => exact zC (Kd.V_reads' HO353.out).2.2); (case side2 => exact (Kd.V_reads' HO353.out).2.1); rintro e w37 ⟨v355, rfl, ho0, hb⟩; replace HO353 := aM (Kd.V_elder' (by (with_reducible repeat (first | apply Kd.V_alloc | apply Kd.V_drewN | apply Kd.V_drew)); exact HO353.out) (Kd.R_base ho0) hb); have HO356 := aM (Kd.R_lower ho0 (below_size zH)); replace BK346 := cB BK346 hb; replace BK347 := cB BK347 hb; replace BK348 := cB BK348 hb; replace HB := cH HB hb; (try clear hb); (try clear ho0)))
    go_ret
    exact ⟨_, zR, by (with_reducible repeat (first | apply Kd.R_alloc | apply Kd.R_drewN | apply Kd.R_drew)); exact HO356.out, zH⟩

theorem iPlace_f {p w h r : Int} {l : List S42} (hl : l.length ≤ 1048576) (hb : frameB p w h r l = true) (c y x : Int) : Ev (fun k => impl_Frame_isPlace.f k p w h r l c y x) (placeB w h l c y x) := by
  unfold impl_Frame_isPlace.f placeB
  obtain ⟨q1, q2⟩ := frame_len hb
  have hh := has_f p w h r l hl c
  rw [hb, Bool.true_and] at hh
  refine evBind hh (evIf (fun h1 => ?_) (fun h1 => ?_))
  · have h2 := inR_iff.1 h1
    rw [w64 (x := (l.length : Int) - 1) (by omega) (by omega)] at h2
    rw [h1, Bool.true_and]
    refine evBind (iBlocks_f hl hb c h2.1 (by omega)) (evBind (evConst (within_f _ _ _)) (evIf (fun h3 => ?_) (fun h3 => ?_)))
    · rw [h3, Bool.true_and]
      exact evBind (evConst (within_f _ _ _)) (Ev.now _)
    · rw [Bool.eq_false_iff.2 h3, Bool.false_and]
      exact Ev.now _
  · rw [Bool.eq_false_iff.2 h1, Bool.false_and]
    exact Ev.now _
theorem iBlockAt_f (p w h r : Int) (l : List S42) (hl : l.length ≤ 1048576) (c : List (List (List Int))) (hx : ∀ x ∈ c, BndS 1048576 x) (x y z : Int) : Ev (fun n => impl_BlockAt.f n p w h r l c x y z) (blockI p w h r l c x y z) := by
  unfold impl_BlockAt.f blockI
  refine evBind (iCoefsOk_f p w h r l hl c hx) (evIf (fun h1 => ?_) (fun h1 => ?_))
  · have hb := coefs_frame h1
    have key := iPlace_f hl hb x y z
    by_cases hp : placeB w h l x y z = true
    · rw [hp] at key
      rw [if_pos ⟨h1, hp⟩]
      obtain ⟨b1, b2⟩ := place_in h1 hp
      obtain ⟨q1, q2⟩ := frame_len hb
      have hll : x < (l.length : Int) := by
        rw [placeB, Bool.and_eq_true, inR_iff, w64 (x := (l.length : Int) - 1) (by omega) (by omega)] at hp
        omega
      refine evBind key (Ev.step (fun k => by rw [impl_BlockAt.j0]) (evNeg (by simp) ?_))
      have hat : Ev (fun k => impl_Coefs_at.f k c p w h r l x y z) (rd_L3 (rd_L4 c x) (placeK w h l x y z)) := by
        unfold impl_Coefs_at.f
        exact evBind (iBlocks_f hl hb x b1.1 hll) (evPos b1.1 (evPos b1.2 (evPos b2.1 (evPos b2.2 (Ev.now _)))))
      refine evBind hat (evBind (evConst ?_) (Ev.now _))
      unfold slices_Clone_int_int.f
      rw [if_pos (bnd_at hx b1 b2)]
    · rw [Bool.eq_false_iff.2 hp] at key
      rw [if_neg (fun e => hp e.2)]
      exact evBind key (Ev.step (fun k => by rw [impl_BlockAt.j0]) (evPos (by simp) (Ev.now _)))
  · rw [if_neg (fun e => h1 e.1)]
    exact Ev.step (fun k => by rw [impl_BlockAt.j0]) (evPos rfl (Ev.now _))

end Go.Proofs.Ythajjjpblkhmmaa.CB
