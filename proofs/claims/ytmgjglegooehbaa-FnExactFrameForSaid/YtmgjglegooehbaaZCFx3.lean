/- Functions that a law of this seat reaches: written by a program of this session (wip/xprint.py), and by hand. -/
import Derived.Test.YtmgjglegooehbaaZCFx0
import Derived.Test.YtmgjglegooehbaaZCFx1
import Derived.Test.YtmgjglegooehbaaZCFx2
namespace Go.Proofs.Ytmgjglegooehbaa.CF
open Go.RowKit Go.Proofs.Ytmgjglegooehbaa.B Go.Proofs.YtmgjglegooehbaaW.PrintWords Go.Proofs.YtmgjglegooehbaaW.PrintLast Go.Proofs.YtmgjglegooehbaaW.PrintMore
attribute [local go_sem] max2_int min2_int max_two min_two max_three min_three max_four min_four   -- for this text's walks alone
set_option linter.unusedVariables false
set_option linter.unusedSimpArgs false

def topI (p : Int) : Int := wrap64 (shl .i64 1 p - 1)
def headB (p w h : Int) (l : List (List Int)) : Bool := (p == 8 || p == 12) && (inR w 1 256 && (inR h 1 256 && (decide (¬ wrap64 (w * h) > 16384) && inR (l.length : Int) 1 4)))
def fitB (p w h : Int) (x : List Int) : Bool := decide ((x.length : Int) = wrap64 (w * h)) && allR x 0 (topI p)
def pictureB (p w h : Int) (l : List (List Int)) : Bool := headB p w h l && l.all (fitB p w h)
theorem headB_prec {p w h : Int} {l : List (List Int)} (hh : headB p w h l = true) : 0 ≤ p := by
  simp only [headB, Bool.and_eq_true, Bool.or_eq_true, beq_iff_eq] at hh
  omega
theorem sPic_l1 (p w h : Int) (hp : 0 ≤ p) (l : List (List Int)) (hl : l.length ≤ 1048576) (hx : ∀ x ∈ l, x.length ≤ 1048576) (i : Nat) (hi : i < l.length) (r : Bool)
    (hr : allR l[i] 0 (topI p) = true → Ev (fun k => spec_PictureOk.l0 k ((i + 1 : Nat) : Int) p w h l) r) (hr2 : ¬ allR l[i] 0 (topI p) = true → r = false) :
    ∀ (d j : Nat), j + d = l[i].length → allR (l[i].take j) 0 (topI p) = true → Ev (fun k => spec_PictureOk.l1 k i j p w h l) r := by
  have hxl := hx _ (List.getElem_mem hi)
  intro d
  induction d with
  | zero =>
    intro j hj ha
    rw [List.take_of_length_le (by omega)] at ha
    refine Ev.step (fun k => by rw [spec_PictureOk.l1]) (evPos (by omega) (evPos (by omega) ?_))
    rw [rdSS_nat hi]
    refine evNeg (by omega) ?_
    rw [show (i : Int) + 1 = ((i + 1 : Nat) : Int) from by omega, w64n (by omega)]
    exact hr ha
  | succ d ih =>
    intro j hj ha
    have hjl : j < l[i].length := by omega
    refine Ev.step (fun k => by rw [spec_PictureOk.l1]) (evPos (by omega) (evPos (by omega) ?_))
    rw [rdSS_nat hi, rd_nat hjl]
    refine evPos (by omega) (evPos (by omega) (evPos hp (evBind (evConst (between_f _ _ _)) (evIf (fun hb => ?_) (fun hb => ?_)))))
    · rw [show (j : Int) + 1 = ((j + 1 : Nat) : Int) from by omega, w64n (by omega)]
      refine ih (j + 1) (by omega) ?_
      rw [List.take_succ_eq_append_getElem hjl]
      unfold allR at ha ⊢
      rw [List.all_append, ha]
      simpa [topI] using hb
    · refine evCast (Ev.now _) (hr2 ?_).symm
      intro hh
      exact hb (List.all_eq_true.1 hh _ (List.getElem_mem hjl))
theorem sPic_l0 (p w h : Int) (hp : 0 ≤ p) (l : List (List Int)) (hl : l.length ≤ 1048576) (hx : ∀ x ∈ l, x.length ≤ 1048576) : ∀ (d i : Nat), i + d = l.length → Ev (fun k => spec_PictureOk.l0 k i p w h l) ((l.drop i).all (fitB p w h)) := by
  intro d
  induction d with
  | zero =>
    intro i hi
    refine Ev.step (fun k => by rw [spec_PictureOk.l0]) (evNeg (by omega) ?_)
    rw [List.drop_eq_nil_of_le (by omega)]
    exact Ev.now _
  | succ d ih =>
    intro i hi
    have h1 : i < l.length := by omega
    refine Ev.step (fun k => by rw [spec_PictureOk.l0]) (evPos (by omega) (evPos (by omega) ?_))
    rw [dropL_get h1, rdSS_nat h1, List.all_cons]
    refine evIf (fun hc => ?_) (fun hc => ?_)
    · have e : fitB p w h l[i] = allR l[i] 0 (topI p) := by unfold fitB; rw [decide_eq_true hc, Bool.true_and]
      rw [e]
      refine sPic_l1 p w h hp l hl hx i h1 _ (fun ha => ?_) (fun ha => ?_) l[i].length 0 (by omega) (by simp [allR])
      · rw [ha, Bool.true_and]
        exact ih (i + 1) (by omega)
      · rw [Bool.eq_false_iff.2 ha, Bool.false_and]
    · have e : fitB p w h l[i] = false := by unfold fitB; rw [decide_eq_false hc, Bool.false_and]
      rw [e, Bool.false_and]
      exact Ev.now _
theorem sPictureOk_f (p w h : Int) (l : List (List Int)) (hl : l.length ≤ 1048576) (hx : ∀ x ∈ l, x.length ≤ 1048576) : Ev (fun k => spec_PictureOk.f k p w h l) (pictureB p w h l) := by
  have no : headB p w h l = false → Ev (fun k => spec_PictureOk.j0 k true p w h l) (pictureB p w h l) := fun hf => by
    unfold pictureB
    rw [hf, Bool.false_and]
    exact Ev.step (fun k => by rw [spec_PictureOk.j0]) (evPos rfl (Ev.now _))
  have yes : ∀ b : Bool, headB p w h l = b → Ev (fun k => spec_PictureOk.j0 k (!b) p w h l) (pictureB p w h l) := fun b hb => by
    cases b with
    | false => exact no hb
    | true =>
      unfold pictureB
      rw [hb, Bool.true_and]
      refine Ev.step (fun k => by rw [spec_PictureOk.j0]) ?_
      exact evNeg (by simp) (sPic_l0 p w h (headB_prec hb) l hl hx l.length 0 (by omega))
  have tail : (p == 8 || p == 12) = true → Ev (fun k => (spec_l01Between.f w 1 256).bind fun t106 => (if t106 = true then ((spec_l01Between.f h 1 256).bind fun t107 => (if t107 = true then (if (wrap64 (w * h)) > 16384 then (spec_PictureOk.j0 k true p w h l) else ((spec_l01Between.f (l.length : Int) 1 4).bind fun t108 => (spec_PictureOk.j0 k (!t108) p w h l))) else (spec_PictureOk.j0 k true p w h l))) else (spec_PictureOk.j0 k true p w h l))) (pictureB p w h l) := fun hp => by
    refine evBind (evConst (between_f _ _ _)) (evIf (fun h1 => ?_) (fun h1 => no ?_))
    · refine evBind (evConst (between_f _ _ _)) (evIf (fun h2 => ?_) (fun h2 => no ?_))
      · refine evIf (fun h3 => no ?_) (fun h3 => evBind (evConst (between_f _ _ _)) (yes _ ?_))
        · unfold headB
          rw [decide_eq_false (Classical.not_not.2 h3)]
          simp
        · unfold headB
          rw [hp, h1, h2, decide_eq_true h3]
          simp
      · unfold headB
        rw [Bool.eq_false_iff.2 h2]
        simp
    · unfold headB
      rw [Bool.eq_false_iff.2 h1]
      simp
  unfold spec_PictureOk.f
  refine evIf (fun hp => tail (by simp [hp])) (fun hp => evIf (fun hp2 => tail (by simp [hp2])) (fun hp2 => no ?_))
  unfold headB
  rw [show (p == 8 || p == 12) = false from by simp [hp, hp2], Bool.false_and]

/-! ### spec_OptionsOk: function 30 -/
def spec_OptionsOk.f (a0_0 : Int) (a0_1 : Int) (a0_2 : Int) (a0_3 : Int) (a0_4 : Bool) (a0_5 : Bool) : Option (Bool) := (spec_l01Between.f a0_0 0 100).bind fun t118 => (if t118 = true then ((spec_l01Between.f a0_1 0 1).bind fun t119 => (if t119 = true then ((spec_l01Between.f a0_2 0 2).bind fun t120 => (if t120 = true then ((spec_l01Between.f a0_3 0 255).bind fun t121 => (some t121)) else (some false))) else (some false))) else (some false))
set_option maxHeartbeats 8000000 in
set_option maxRecDepth 100000 in
theorem spec_OptionsOk.calls (a0_0 : Int) (a0_1 : Int) (a0_2 : Int) (a0_3 : Int) (a0_4 : Bool) (a0_5 : Bool) (r : Bool) (w : World) (h : spec_OptionsOk.f a0_0 a0_1 a0_2 a0_3 a0_4 a0_5 = some r) :
    Calls Try.prog 30 #[.agg #[.int .i64 a0_0, .int .i64 a0_1, .int .i64 a0_2, .int .i64 a0_3, .bool a0_4, .bool a0_5]] w fun e w' => e = .returned (.bool r) ∧ Below w.heap.size w w' := by
  have hu34 := Try.underlying34
  have HB := Aside0.mk (Below.refl w.heap.size w)
  have H : ((spec_l01Between.f a0_0 0 100).bind fun t118 => (if t118 = true then ((spec_l01Between.f a0_1 0 1).bind fun t119 => (if t119 = true then ((spec_l01Between.f a0_2 0 2).bind fun t120 => (if t120 = true then ((spec_l01Between.f a0_3 0 255).bind fun t121 => (some t121)) else (some false))) else (some false))) else (some false))) = some r := h
  clear h
  replace H := Option.bind_eq_some_iff.mp H
  obtain ⟨t118, A20, H⟩ := H
  replace H : (if t118 = true then ((spec_l01Between.f a0_1 0 1).bind fun t119 => (if t119 = true then ((spec_l01Between.f a0_2 0 2).bind fun t120 => (if t120 = true then ((spec_l01Between.f a0_3 0 255).bind fun t121 => (some t121)) else (some false))) else (some false))) else (some false)) = some r := H
  have A2 := Aside0.mk A20
  clear A20
  by_cases c3 : t118 = true
  · subst c3
    have H1 : ((spec_l01Between.f a0_1 0 1).bind fun t119 => (if t119 = true then ((spec_l01Between.f a0_2 0 2).bind fun t120 => (if t120 = true then ((spec_l01Between.f a0_3 0 255).bind fun t121 => (some t121)) else (some false))) else (some false))) = some r := by rw [if_pos rfl] at H; exact H
    clear H
    have H := H1
    clear H1
    replace H := Option.bind_eq_some_iff.mp H
    obtain ⟨t119, A40, H⟩ := H
    replace H : (if t119 = true then ((spec_l01Between.f a0_2 0 2).bind fun t120 => (if t120 = true then ((spec_l01Between.f a0_3 0 255).bind fun t121 => (some t121)) else (some false))) else (some false)) = some r := H
    have A4 := Aside0.mk A40
    clear A40
    by_cases c5 : t119 = true
    · subst c5
      have H1 : ((spec_l01Between.f a0_2 0 2).bind fun t120 => (if t120 = true then ((spec_l01Between.f a0_3 0 255).bind fun t121 => (some t121)) else (some false))) = some r := by rw [if_pos rfl] at H; exact H
      clear H
      have H := H1
      clear H1
      replace H := Option.bind_eq_some_iff.mp H
      obtain ⟨t120, A60, H⟩ := H
      replace H : (if t120 = true then ((spec_l01Between.f a0_3 0 255).bind fun t121 => (some t121)) else (some false)) = some r := H
      have A6 := Aside0.mk A60
      clear A60
      by_cases c7 : t120 = true
      · subst c7
        have H1 : ((spec_l01Between.f a0_3 0 255).bind fun t121 => (some t121)) = some r := by rw [if_pos rfl] at H; exact H
        clear H
        have H := H1
        clear H1
        replace H := Option.bind_eq_some_iff.mp H
        obtain ⟨t121, A80, H⟩ := H
        replace H : (some t121) = some r := H
        have A8 := Aside0.mk A80
        clear A80
        obtain rfl := Option.some.inj H
        go_enter Try.func30, Try.ntmps30
        go_wp2_with (first | ((with_reducible refine gate_dst (N := 1) rfl ?_); refine box_event ?hg (N := 1) ?hd (cs := #[.int .i64 a0_0, .int .i64 a0_1, .int .i64 a0_2, .int .i64 a0_3, .bool a0_4, .bool a0_5]) (t := 34) ?hr ?_; (case hd => rfl); (case hg => rfl); (case hr => first | (go_simp; done) | (go_simp; rfl)); intro gb117 hg w9 hbox hb; have n0_ := Aside0.mk (below_step (by repeat (first | (with_reducible first | exact HB.out | apply below_alloc | apply pw_below_drewN | apply below_drew1) | exact HB.out)) hb); have n1_ := Aside0.mk (hbox); have n2_ := Aside0.mk ((by rw [hg]; exact (below_size (by repeat (first | (with_reducible first | exact HB.out | apply below_alloc | apply pw_below_drewN | apply below_drew1) | exact HB.out))) : w.heap.size ≤ gb117)); have n3_ := Aside0.mk ((by rw [hg]; exact (below_size (by repeat (first | (with_reducible first | exact HB.out | apply below_alloc | apply pw_below_drewN | apply below_drew1) | exact HB.out))) : w.heap.size ≤ gb117)); clear HB; have HB := n0_; have BK117 := n1_; have GW117 := n2_; have GE117 := n3_; clear n0_ n1_ n2_ n3_; clear hb hbox hg; have hcz10_0 : w9.cell? ⟨gb117, 0, none⟩ = some (.int .i64 a0_0) := (blk_cell BK117.out 0).trans rfl; have hcz10_1 : w9.cell? ⟨gb117, 1, none⟩ = some (.int .i64 a0_1) := (blk_cell BK117.out 1).trans rfl; have hcz10_2 : w9.cell? ⟨gb117, 2, none⟩ = some (.int .i64 a0_2) := (blk_cell BK117.out 2).trans rfl; have hcz10_3 : w9.cell? ⟨gb117, 3, none⟩ = some (.int .i64 a0_3) := (blk_cell BK117.out 3).trans rfl; have hcz10_4 : w9.cell? ⟨gb117, 4, none⟩ = some (.bool a0_4) := (blk_cell BK117.out 4).trans rfl; have hcz10_5 : w9.cell? ⟨gb117, 5, none⟩ = some (.bool a0_5) := (blk_cell BK117.out 5).trans rfl; have hfz10_0 := blk_frozen BK117.out 0; have hfz10_1 := blk_frozen BK117.out 1; have hfz10_2 := blk_frozen BK117.out 2; have hfz10_3 := blk_frozen BK117.out 3; have hfz10_4 := blk_frozen BK117.out 4; have hfz10_5 := blk_frozen BK117.out 5) | ((with_reducible refine gate_callee (f := 49) rfl ?_); refine goesL_ (some 5) rfl rfl Try.func49 (by kernel_rfl) rfl #[.int .i64 a0_0, .int .i64 0, .int .i64 100] rfl (by (try simp only [List.map_toArray, List.map_cons, List.map_nil]); first | done | rfl | (simp only [List.length_drop, List.length_take]; rfl)) ?_; (with_reducible refine (spec_l01Between.calls a0_0 0 100 true _ A2.out).mono ?_); rintro e w' ⟨rfl, ⟨nd, rfl⟩⟩; refine ⟨_, rfl, ?_⟩) | (go_at_call 49; (with_reducible refine (spec_l01Between.calls a0_1 0 1 true _ A4.out).mono ?_); rintro e w' ⟨rfl, ⟨nd, rfl⟩⟩) | (go_at_call 49; (with_reducible refine (spec_l01Between.calls a0_2 0 2 true _ A6.out).mono ?_); rintro e w' ⟨rfl, ⟨nd, rfl⟩⟩) | (go_at_call 49; (with_reducible refine (spec_l01Between.calls a0_3 0 255 t121 _ A8.out).mono ?_); rintro e w' ⟨rfl, ⟨nd, rfl⟩⟩))
        go_ret
        exact ⟨by first | rfl | (simp [errW_none, errW_some] <;> rfl) | (simp [*, errW_none, errW_some] <;> rfl), by repeat (first | (with_reducible first | exact HB.out | apply below_alloc | apply pw_below_drewN | apply below_drew1 | refine below_set ?_ GE117.out) | exact HB.out)⟩
      · replace c7 := Bool.eq_false_iff.mpr c7
        subst c7
        have H1 : (some false) = some r := by rw [if_neg (show ¬ (false = true) by decide)] at H; exact H
        clear H
        have H := H1
        clear H1
        obtain rfl := Option.some.inj H
        go_enter Try.func30, Try.ntmps30
        go_wp2_with (first | ((with_reducible refine gate_dst (N := 1) rfl ?_); refine box_event ?hg (N := 1) ?hd (cs := #[.int .i64 a0_0, .int .i64 a0_1, .int .i64 a0_2, .int .i64 a0_3, .bool a0_4, .bool a0_5]) (t := 34) ?hr ?_; (case hd => rfl); (case hg => rfl); (case hr => first | (go_simp; done) | (go_simp; rfl)); intro gb117 hg w11 hbox hb; have n0_ := Aside0.mk (below_step (by repeat (first | (with_reducible first | exact HB.out | apply below_alloc | apply pw_below_drewN | apply below_drew1) | exact HB.out)) hb); have n1_ := Aside0.mk (hbox); have n2_ := Aside0.mk ((by rw [hg]; exact (below_size (by repeat (first | (with_reducible first | exact HB.out | apply below_alloc | apply pw_below_drewN | apply below_drew1) | exact HB.out))) : w.heap.size ≤ gb117)); have n3_ := Aside0.mk ((by rw [hg]; exact (below_size (by repeat (first | (with_reducible first | exact HB.out | apply below_alloc | apply pw_below_drewN | apply below_drew1) | exact HB.out))) : w.heap.size ≤ gb117)); clear HB; have HB := n0_; have BK117 := n1_; have GW117 := n2_; have GE117 := n3_; clear n0_ n1_ n2_ n3_; clear hb hbox hg; have hcz12_0 : w11.cell? ⟨gb117, 0, none⟩ = some (.int .i64 a0_0) := (blk_cell BK117.out 0).trans rfl; have hcz12_1 : w11.cell? ⟨gb117, 1, none⟩ = some (.int .i64 a0_1) := (blk_cell BK117.out 1).trans rfl; have hcz12_2 : w11.cell? ⟨gb117, 2, none⟩ = some (.int .i64 a0_2) := (blk_cell BK117.out 2).trans rfl; have hcz12_3 : w11.cell? ⟨gb117, 3, none⟩ = some (.int .i64 a0_3) := (blk_cell BK117.out 3).trans rfl; have hcz12_4 : w11.cell? ⟨gb117, 4, none⟩ = some (.bool a0_4) := (blk_cell BK117.out 4).trans rfl; have hcz12_5 : w11.cell? ⟨gb117, 5, none⟩ = some (.bool a0_5) := (blk_cell BK117.out 5).trans rfl; have hfz12_0 := blk_frozen BK117.out 0; have hfz12_1 := blk_frozen BK117.out 1; have hfz12_2 := blk_frozen BK117.out 2; have hfz12_3 := blk_frozen BK117.out 3; have hfz12_4 := blk_frozen BK117.out 4; have hfz12_5 := blk_frozen BK117.out 5) | ((with_reducible refine gate_callee (f := 49) rfl ?_); refine goesL_ (some 5) rfl rfl Try.func49 (by kernel_rfl) rfl #[.int .i64 a0_0, .int .i64 0, .int .i64 100] rfl (by (try simp only [List.map_toArray, List.map_cons, List.map_nil]); first | done | rfl | (simp only [List.length_drop, List.length_take]; rfl)) ?_; (with_reducible refine (spec_l01Between.calls a0_0 0 100 true _ A2.out).mono ?_); rintro e w' ⟨rfl, ⟨nd, rfl⟩⟩; refine ⟨_, rfl, ?_⟩) | (go_at_call 49; (with_reducible refine (spec_l01Between.calls a0_1 0 1 true _ A4.out).mono ?_); rintro e w' ⟨rfl, ⟨nd, rfl⟩⟩) | (go_at_call 49; (with_reducible refine (spec_l01Between.calls a0_2 0 2 false _ A6.out).mono ?_); rintro e w' ⟨rfl, ⟨nd, rfl⟩⟩))
        go_ret
        exact ⟨by first | rfl | (simp [errW_none, errW_some] <;> rfl) | (simp [*, errW_none, errW_some] <;> rfl), by repeat (first | (with_reducible first | exact HB.out | apply below_alloc | apply pw_below_drewN | apply below_drew1 | refine below_set ?_ GE117.out) | exact HB.out)⟩
    · replace c5 := Bool.eq_false_iff.mpr c5
      subst c5
      have H1 : (some false) = some r := by rw [if_neg (show ¬ (false = true) by decide)] at H; exact H
      clear H
      have H := H1
      clear H1
      obtain rfl := Option.some.inj H
      go_enter Try.func30, Try.ntmps30
      go_wp2_with (first | ((with_reducible refine gate_dst (N := 1) rfl ?_); refine box_event ?hg (N := 1) ?hd (cs := #[.int .i64 a0_0, .int .i64 a0_1, .int .i64 a0_2, .int .i64 a0_3, .bool a0_4, .bool a0_5]) (t := 34) ?hr ?_; (case hd => rfl); (case hg => rfl); (case hr => first | (go_simp; done) | (go_simp; rfl)); intro gb117 hg w13 hbox hb; have n0_ := Aside0.mk (below_step (by repeat (first | (with_reducible first | exact HB.out | apply below_alloc | apply pw_below_drewN | apply below_drew1) | exact HB.out)) hb); have n1_ := Aside0.mk (hbox); have n2_ := Aside0.mk ((by rw [hg]; exact (below_size (by repeat (first | (with_reducible first | exact HB.out | apply below_alloc | apply pw_below_drewN | apply below_drew1) | exact HB.out))) : w.heap.size ≤ gb117)); have n3_ := Aside0.mk ((by rw [hg]; exact (below_size (by repeat (first | (with_reducible first | exact HB.out | apply below_alloc | apply pw_below_drewN | apply below_drew1) | exact HB.out))) : w.heap.size ≤ gb117)); clear HB; have HB := n0_; have BK117 := n1_; have GW117 := n2_; have GE117 := n3_; clear n0_ n1_ n2_ n3_; clear hb hbox hg; have hcz14_0 : w13.cell? ⟨gb117, 0, none⟩ = some (.int .i64 a0_0) := (blk_cell BK117.out 0).trans rfl; have hcz14_1 : w13.cell? ⟨gb117, 1, none⟩ = some (.int .i64 a0_1) := (blk_cell BK117.out 1).trans rfl; have hcz14_2 : w13.cell? ⟨gb117, 2, none⟩ = some (.int .i64 a0_2) := (blk_cell BK117.out 2).trans rfl; have hcz14_3 : w13.cell? ⟨gb117, 3, none⟩ = some (.int .i64 a0_3) := (blk_cell BK117.out 3).trans rfl; have hcz14_4 : w13.cell? ⟨gb117, 4, none⟩ = some (.bool a0_4) := (blk_cell BK117.out 4).trans rfl; have hcz14_5 : w13.cell? ⟨gb117, 5, none⟩ = some (.bool a0_5) := (blk_cell BK117.out 5).trans rfl; have hfz14_0 := blk_frozen BK117.out 0; have hfz14_1 := blk_frozen BK117.out 1; have hfz14_2 := blk_frozen BK117.out 2; have hfz14_3 := blk_frozen BK117.out 3; have hfz14_4 := blk_frozen BK117.out 4; have hfz14_5 := blk_frozen BK117.out 5) | ((with_reducible refine gate_callee (f := 49) rfl ?_); refine goesL_ (some 5) rfl rfl Try.func49 (by kernel_rfl) rfl #[.int .i64 a0_0, .int .i64 0, .int .i64 100] rfl (by (try simp only [List.map_toArray, List.map_cons, List.map_nil]); first | done | rfl | (simp only [List.length_drop, List.length_take]; rfl)) ?_; (with_reducible refine (spec_l01Between.calls a0_0 0 100 true _ A2.out).mono ?_); rintro e w' ⟨rfl, ⟨nd, rfl⟩⟩; refine ⟨_, rfl, ?_⟩) | (go_at_call 49; (with_reducible refine (spec_l01Between.calls a0_1 0 1 false _ A4.out).mono ?_); rintro e w' ⟨rfl, ⟨nd, rfl⟩⟩))
      go_ret
      exact ⟨by first | rfl | (simp [errW_none, errW_some] <;> rfl) | (simp [*, errW_none, errW_some] <;> rfl), by repeat (first | (with_reducible first | exact HB.out | apply below_alloc | apply pw_below_drewN | apply below_drew1 | refine below_set ?_ GE117.out) | exact HB.out)⟩
  · replace c3 := Bool.eq_false_iff.mpr c3
    subst c3
    have H1 : (some false) = some r := by rw [if_neg (show ¬ (false = true) by decide)] at H; exact H
    clear H
    have H := H1
    clear H1
    obtain rfl := Option.some.inj H
    go_enter Try.func30, Try.ntmps30
    go_wp2_with (first | ((with_reducible refine gate_dst (N := 1) rfl ?_); refine box_event ?hg (N := 1) ?hd (cs := #[.int .i64 a0_0, .int .i64 a0_1, .int .i64 a0_2, .int .i64 a0_3, .bool a0_4, .bool a0_5]) (t := 34) ?hr ?_; (case hd => rfl); (case hg => rfl); (case hr => first | (go_simp; done) | (go_simp; rfl)); intro gb117 hg w15 hbox hb; have n0_ := Aside0.mk (below_step (by repeat (first | (with_reducible first | exact HB.out | apply below_alloc | apply pw_below_drewN | apply below_drew1) | exact HB.out)) hb); have n1_ := Aside0.mk (hbox); have n2_ := Aside0.mk ((by rw [hg]; exact (below_size (by repeat (first | (with_reducible first | exact HB.out | apply below_alloc | apply pw_below_drewN | apply below_drew1) | exact HB.out))) : w.heap.size ≤ gb117)); have n3_ := Aside0.mk ((by rw [hg]; exact (below_size (by repeat (first | (with_reducible first | exact HB.out | apply below_alloc | apply pw_below_drewN | apply below_drew1) | exact HB.out))) : w.heap.size ≤ gb117)); clear HB; have HB := n0_; have BK117 := n1_; have GW117 := n2_; have GE117 := n3_; clear n0_ n1_ n2_ n3_; clear hb hbox hg; have hcz16_0 : w15.cell? ⟨gb117, 0, none⟩ = some (.int .i64 a0_0) := (blk_cell BK117.out 0).trans rfl; have hcz16_1 : w15.cell? ⟨gb117, 1, none⟩ = some (.int .i64 a0_1) := (blk_cell BK117.out 1).trans rfl; have hcz16_2 : w15.cell? ⟨gb117, 2, none⟩ = some (.int .i64 a0_2) := (blk_cell BK117.out 2).trans rfl; have hcz16_3 : w15.cell? ⟨gb117, 3, none⟩ = some (.int .i64 a0_3) := (blk_cell BK117.out 3).trans rfl; have hcz16_4 : w15.cell? ⟨gb117, 4, none⟩ = some (.bool a0_4) := (blk_cell BK117.out 4).trans rfl; have hcz16_5 : w15.cell? ⟨gb117, 5, none⟩ = some (.bool a0_5) := (blk_cell BK117.out 5).trans rfl; have hfz16_0 := blk_frozen BK117.out 0; have hfz16_1 := blk_frozen BK117.out 1; have hfz16_2 := blk_frozen BK117.out 2; have hfz16_3 := blk_frozen BK117.out 3; have hfz16_4 := blk_frozen BK117.out 4; have hfz16_5 := blk_frozen BK117.out 5) | ((with_reducible refine gate_callee (f := 49) rfl ?_); refine goesL_ (some 5) rfl rfl Try.func49 (by kernel_rfl) rfl #[.int .i64 a0_0, .int .i64 0, .int .i64 100] rfl (by (try simp only [List.map_toArray, List.map_cons, List.map_nil]); first | done | rfl | (simp only [List.length_drop, List.length_take]; rfl)) ?_; (with_reducible refine (spec_l01Between.calls a0_0 0 100 false _ A2.out).mono ?_); rintro e w' ⟨rfl, ⟨nd, rfl⟩⟩; refine ⟨_, rfl, ?_⟩))
    go_ret
    exact ⟨by first | rfl | (simp [errW_none, errW_some] <;> rfl) | (simp [*, errW_none, errW_some] <;> rfl), by repeat (first | (with_reducible first | exact HB.out | apply below_alloc | apply pw_below_drewN | apply below_drew1 | refine below_set ?_ GE117.out) | exact HB.out)⟩

def optB (q m k r : Int) : Bool := inR q 0 100 && (inR m 0 1 && (inR k 0 2 && inR r 0 255))
theorem sOpt_f (q m k r : Int) (c h : Bool) : spec_OptionsOk.f q m k r c h = some (optB q m k r) := by
  unfold spec_OptionsOk.f optB
  simp only [between_f, Option.bind_some]
  cases inR q 0 100 <;> cases inR m 0 1 <;> cases inR k 0 2 <;> simp

end Go.Proofs.Ytmgjglegooehbaa.CF
