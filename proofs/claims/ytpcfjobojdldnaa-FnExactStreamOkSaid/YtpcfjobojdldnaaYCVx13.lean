/- Functions that a law of this seat reaches: written by a program of this session (wip/xprint.py), and by hand. -/
import Derived.Test.YtpcfjobojdldnaaYMac
import Derived.Test.YtpcfjobojdldnaaYCVx0
import Derived.Test.YtpcfjobojdldnaaYCVx1
import Derived.Test.YtpcfjobojdldnaaYCVx2
import Derived.Test.YtpcfjobojdldnaaYCVx3
import Derived.Test.YtpcfjobojdldnaaYCVx4
import Derived.Test.YtpcfjobojdldnaaYCVx6
import Derived.Test.YtpcfjobojdldnaaYCVx9
import Derived.Test.YtpcfjobojdldnaaYCVx11
import Derived.Test.YtpcfjobojdldnaaYCVx12
namespace Go.Proofs.Ytpcfjobojdldnaa.CV
open Go.RowKit Go.Proofs.Ytpcfjobojdldnaa.B Go.Proofs.YtpcfjobojdldnaaW.PrintWords Go.Proofs.YtpcfjobojdldnaaW.PrintLast Go.Proofs.YtpcfjobojdldnaaW.PrintMore
attribute [local go_sem] max2_int min2_int max_two min_two max_three min_three max_four min_four   -- for this text's walks alone
set_option linter.unusedVariables false
set_option linter.unusedSimpArgs false

theorem sTableOk_f (l : List Int) : Ev (fun k => spec_TableOk.f k l) (tabB l) := by
  unfold spec_TableOk.f
  exact evBind (sNums_f l 1 1023) (Ev.now _)
def streamB (p w h r : Int) (l : List S74) (T : List (List Int)) (c : List (List (List Int))) (m : Int) (J : List S86) (N : List Int) : Bool :=
  frameB p w h r l && (decide ((T.length : Int) = 4) && (coefsB p w h r l c && (inR m 0 1 && (scriptB p w h r l J && (decide ((N.length : Int) ≤ 1000) && T.all tabB)))))
theorem sTabs_l0 (p w h r : Int) (l : List S74) (T : List (List Int)) (c : List (List (List Int))) (m : Int) (J : List S86) (N : List Int) (hT : T.length = 4) : ∀ (d i : Nat), i + d = 4 → Ev (fun k => spec_StreamOk.l0 k i p w h r l T c m J N) ((T.drop i).all tabB) := by
  intro d
  induction d with
  | zero =>
    intro i hi
    refine Ev.step (fun k => by rw [spec_StreamOk.l0]) (evNeg (by omega) ?_)
    rw [List.drop_eq_nil_of_le (by omega)]
    exact Ev.now _
  | succ d ih =>
    intro i hi
    have hlt : i < T.length := by omega
    refine Ev.step (fun k => by rw [spec_StreamOk.l0]) (evPos (by omega) (evPos (by omega) (evPos (by omega) ?_)))
    rw [rdSS_nat hlt, List.drop_eq_getElem_cons hlt, List.all_cons]
    refine evBind (sTableOk_f _) (evIf (fun hb => ?_) (fun hb => ?_))
    · rw [hb, Bool.true_and, show (i : Int) + 1 = ((i + 1 : Nat) : Int) from by omega, w64n (by omega)]
      exact ih (i + 1) (by omega)
    · rw [Bool.eq_false_iff.2 hb, Bool.false_and]
      exact Ev.now _
theorem sStreamOk_f (p w h r : Int) (l : List S74) (T : List (List Int)) (c : List (List (List Int))) (m : Int) (J : List S86) (N : List Int) (hl : l.length ≤ 1048576)
    (hcx : ∀ x ∈ c, BndS 1048576 x) (hJ : J.length ≤ 1048576) (hJx : ∀ x ∈ J, x.f0.length ≤ 1048576) :
    Ev (fun k => spec_StreamOk.f k p w h r l T c m J N) (streamB p w h r l T c m J N) := by
  have no : Ev (fun k => spec_StreamOk.j0 k true p w h r l T c m J N) false := Ev.step (fun k => by rw [spec_StreamOk.j0]) (evPos rfl (Ev.now _))
  unfold spec_StreamOk.f streamB
  refine evBind (sFrameOk_f p w h r l hl) (evIf (fun b1 => ?_) (fun b1 => by rw [Bool.eq_false_iff.2 b1]; exact no))
  rw [b1, Bool.true_and]
  refine evIf (fun b2 => ?_) (fun b2 => by rw [decide_eq_false b2]; exact no)
  rw [decide_eq_true b2, Bool.true_and]
  refine evBind (sCoefsOk_f p w h r l hl c hcx) (evIf (fun b3 => ?_) (fun b3 => by rw [Bool.eq_false_iff.2 b3]; exact no))
  rw [b3, Bool.true_and]
  refine evBind (evConst (between_f m 0 1)) (evIf (fun b4 => ?_) (fun b4 => by rw [Bool.eq_false_iff.2 b4]; exact no))
  rw [b4, Bool.true_and]
  refine evBind (sScriptOk_f J hJ hJx p w h r l hl) (evIf (fun b5 => ?_) (fun b5 => by rw [Bool.eq_false_iff.2 b5]; exact no))
  rw [b5, Bool.true_and]
  by_cases b6 : (N.length : Int) > 1000
  · rw [decide_eq_true b6, decide_eq_false (by omega)]
    exact no
  · rw [decide_eq_false b6, decide_eq_true (by omega), Bool.true_and]
    refine Ev.step (fun k => by rw [spec_StreamOk.j0]) (evNeg (by simp) ?_)
    exact sTabs_l0 p w h r l T c m J N (by omega) 4 0 (by omega)

/-! ### laws_toComp: function 64 -/
def laws_toComp.f (a0_0 : Int) (a0_1 : Int) (a0_2 : Int) (a0_3 : Int) : Option (Int × Int × Int × Int) := some (a0_0, a0_1, a0_2, a0_3)
set_option maxHeartbeats 8000000 in
set_option maxRecDepth 100000 in
theorem laws_toComp.calls (a0_0 : Int) (a0_1 : Int) (a0_2 : Int) (a0_3 : Int) (r1 : Int) (r2 : Int) (r3 : Int) (r4 : Int) (w : World) (h : laws_toComp.f a0_0 a0_1 a0_2 a0_3 = some (r1, r2, r3, r4)) :
  Calls Try.prog 64 #[.agg #[.int .i64 a0_0, .int .i64 a0_1, .int .i64 a0_2, .int .i64 a0_3]] w fun e w' => e = .returned (.agg #[.int .i64 r1, .int .i64 r2, .int .i64 r3, .int .i64 r4]) ∧ Below w.heap.size w w' := by
 have hu98 := Try.underlying98
 have hu74 := Try.underlying74
 have HB := aM (Below.refl w.heap.size w)
 have H : (some (a0_0, a0_1, a0_2, a0_3)) = some (r1, r2, r3, r4) := h
 clear h
 simp only [Option.some.injEq, Prod.mk.injEq] at H
 obtain ⟨rfl, rfl, rfl, rfl⟩ := H
 go_enter Try.func64, Try.ntmps64
 go_wp2_with (first | ((with_reducible refine gate_dst (N := 1) rfl ?_); refine box_event ?hg (N := 1) ?hd (cs := #[.int .i64 a0_0, .int .i64 a0_1, .int .i64 a0_2, .int .i64 a0_3]) (t := 98) ?hr ?_; (case hd => rfl); (case hg => rfl); (case hr => first | (go_simp; done) | (go_simp; rfl)); intro gb304 hg w2 hbox hb; have BK304 := aM hbox; have GW304 := aM (zG hg : w.heap.size ≤ gb304); have GE304 := aM (zG hg : w.heap.size ≤ gb304); replace HB := cH HB hb; clear hb hbox hg) | ((with_reducible refine gate_dst (N := 2) rfl ?_); refine box_event ?hg (N := 2) ?hd (cs := #[.int .i64 0, .int .i64 0, .int .i64 0, .int .i64 0]) (t := 74) ?hr ?_; (case hd => rfl); (case hg => rfl); (case hr => first | (go_simp; done) | (go_simp; rfl)); intro gb305 hg w3 hbox hb; have BK305 := aM hbox; have GW305 := aM (zG hg : w.heap.size ≤ gb305); have GE305 := aM (zG hg : w.heap.size ≤ gb305); replace HB := cH HB hb; have NB304_305 := aM ((zL hg BK304)); have NB305_304 := aM ((zM hg BK304)); replace BK304 := cB BK304 hb; clear hb hbox hg) | ((with_reducible refine gate_dst (N := 3) rfl ?_); refine box_event ?hg (N := 3) ?hd (cs := #[.int .i64 0, .int .i64 0, .int .i64 0, .int .i64 0]) (t := 74) ?hr ?_; (case hd => rfl); (case hg => rfl); (case hr => first | (go_simp; done) | (go_simp; rfl)); intro gb306 hg w4 hbox hb; have BK306 := aM hbox; have GW306 := aM (zG hg : w.heap.size ≤ gb306); have GE306 := aM (zG hg : w.heap.size ≤ gb306); replace HB := cH HB hb; have NB304_306 := aM ((zL hg BK304)); have NB306_304 := aM ((zM hg BK304)); replace BK304 := cB BK304 hb; have NB305_306 := aM ((zL hg BK305)); have NB306_305 := aM ((zM hg BK305)); replace BK305 := cB BK305 hb; clear hb hbox hg; have hnb5 := NB304_305.out; have hnc5 := NB305_304.out; have hnb6 := NB304_306.out; have hnc6 := NB306_304.out; obtain ⟨hcz7_0, hcz7_1, hcz7_2, hcz7_3⟩ := kk4 BK304; obtain ⟨hfz7_0, hfz7_1, hfz7_2, hfz7_3⟩ := kg4 BK304; have hnb8 := NB306_305.out; have hnc8 := NB305_306.out; obtain ⟨hcz9_0, hcz9_1, hcz9_2, hcz9_3⟩ := kk4 BK306; obtain ⟨hfz9_0, hfz9_1, hfz9_2, hfz9_3⟩ := kg4 BK306; obtain ⟨hcz10_0, hcz10_1, hcz10_2, hcz10_3⟩ := kk4 BK305; obtain ⟨hfz10_0, hfz10_1, hfz10_2, hfz10_3⟩ := kg4 BK305))
 refine bodyPost_ret (results_cell_row rfl _ _ gb305 74 #[.int .i64 a0_0, .int .i64 a0_1, .int .i64 a0_2, .int .i64 a0_3] (0, 0) _ rfl (by (with_reducible repeat (first | apply kN | apply kD | apply kA)); refine blk_put (cs := #[.int .i64 a0_0, .int .i64 a0_1, .int .i64 a0_2, .int .i64 0]) ?_ 3 _ rfl; (with_reducible repeat (first | apply kN | apply kD | apply kA)); refine blk_put (cs := #[.int .i64 a0_0, .int .i64 a0_1, .int .i64 0, .int .i64 0]) ?_ 2 _ rfl; (with_reducible repeat (first | apply kN | apply kD | apply kA)); refine blk_put (cs := #[.int .i64 a0_0, .int .i64 0, .int .i64 0, .int .i64 0]) ?_ 1 _ rfl; (with_reducible repeat (first | apply kN | apply kD | apply kA)); refine blk_put (cs := #[.int .i64 0, .int .i64 0, .int .i64 0, .int .i64 0]) ?_ 0 _ rfl; (with_reducible repeat (first | apply kN | apply kD | apply kA)); refine blk_far ?_ NB305_306.out _; (with_reducible repeat (first | apply kN | apply kD | apply kA)); refine blk_far ?_ NB305_306.out _; (with_reducible repeat (first | apply kN | apply kD | apply kA)); refine blk_far ?_ NB305_306.out _; (with_reducible repeat (first | apply kN | apply kD | apply kA)); refine blk_far ?_ NB305_306.out _; (with_reducible repeat (first | apply kN | apply kD | apply kA)); exact BK305.out) Try.underlying74 rfl (by kernel_rfl)) rfl ?_
 exact ⟨zR, zH⟩

/-! ### laws_toCompS: function 45 -/
def laws_toCompS.l0 : Nat → List (S98) → List (S74) → Int → Option ((List (S74)))
  | 0, _, _, _ => none
  | k + 1, x0, x3, x4 => if x4 < (x0.length : Int) then (if 0 ≤ x4 then ((laws_toComp.f ((rd_T98 x0 x4).f0) ((rd_T98 x0 x4).f1) ((rd_T98 x0 x4).f2) ((rd_T98 x0 x4).f3)).bind fun bt311 => (if x4 < (x3.length : Int) then (laws_toCompS.l0 k x0 (x3.set (x4 : Int).toNat (⟨bt311.1, bt311.2.1, bt311.2.2.1, bt311.2.2.2⟩ : S74)) (wrap64 (x4 + 1))) else (none))) else (none)) else (some x3)
def laws_toCompS.f (k : Nat) (l0 : List (S98)) : Option ((List (S74))) := if 0 ≤ (l0.length : Int) then (if ((l0.length : Int) : Int).toNat ≤ 8796093022208 then (laws_toCompS.l0 k l0 (List.replicate ((l0.length : Int) : Int).toNat z74) 0) else (none)) else (none)
theorem laws_toCompS.mono_l : ∀ k, (∀ y0 y1 y2, LeO (laws_toCompS.l0 k y0 y1 y2) (laws_toCompS.l0 (k + 1) y0 y1 y2))
 | 0 => fun _ _ _ r h => by simp [laws_toCompS.l0] at h
 | k + 1 => by
  have ih0 := laws_toCompS.mono_l k
  ·intro y0 y1 y2
   unfold laws_toCompS.l0
   repeat' first
   | (with_reducible exact ih0 _ _ _)
   | (with_reducible exact LeO.refl _)
   | (with_reducible exact LeO.none _)
   | (with_reducible refine LeO.ite ?_ ?_)
   | (with_reducible refine LeO.bind ?_ (fun _ => ?_))
   | exact ih0 _ _ _
   | exact LeO.none _
   | refine LeO.ite ?_ ?_
   | refine LeO.bind ?_ (fun _ => ?_)
theorem laws_toCompS.mono : ∀ a0 k, LeO (laws_toCompS.f k a0) (laws_toCompS.f (k + 1) a0) := by
 intro a0 k
 have ih0 := laws_toCompS.mono_l k
 unfold laws_toCompS.f
 repeat' first
   | (with_reducible exact ih0 _ _ _)
   | (with_reducible exact LeO.refl _)
   | (with_reducible exact LeO.none _)
   | (with_reducible refine LeO.ite ?_ ?_)
   | (with_reducible refine LeO.bind ?_ (fun _ => ?_))
   | exact ih0 _ _ _
   | exact LeO.none _
   | refine LeO.ite ?_ ?_
   | refine LeO.bind ?_ (fun _ => ?_)
set_option maxHeartbeats 8000000 in
set_option maxRecDepth 100000 in
theorem laws_toCompS.calls (k : Nat) (A0 : Option Addr) (c0 : Nat) (l0 : List (S98)) (r : List (S74)) (w : World) (hr0 : Kd.C k98 w A0 l0.length l0) (hc0 : l0.length ≤ c0) (h : laws_toCompS.f k l0 = some r) :
  Calls Try.prog 45 #[.slice A0 l0.length c0] w fun e w' => ∃ v0_ : Value, e = .returned (v0_) ∧ Kd.R k74 74 w' w.heap.size (fun _ => True) v0_ r ∧ Below w.heap.size w w' := by
 have hu98 := Try.underlying98
 have hu74 := Try.underlying74
 have HR0 := aM hr0
 have HC0 := aM hc0
 clear hr0 hc0
 have HB := aM (Below.refl w.heap.size w)
 have H : (if 0 ≤ (l0.length : Int) then (if ((l0.length : Int) : Int).toNat ≤ 8796093022208 then (laws_toCompS.l0 k l0 (List.replicate ((l0.length : Int) : Int).toNat z74) 0) else (none)) else (none)) = some r := h
 clear h
 by_cases c2 : 0 ≤ (l0.length : Int)
 ·rw [if_pos c2] at H
  have c2b0 := eq_true c2
  have c2b1 : decide (0 ≤ (l0.length : Int)) = true := decide_eq_true c2
  clear c2
  by_cases c3 : ((l0.length : Int) : Int).toNat ≤ 8796093022208
  ·rw [if_pos c3] at H
   have c3b0 := eq_true c3
   have c3b1 : decide (((l0.length : Int) : Int).toNat ≤ 8796093022208) = true := decide_eq_true c3
   clear c3
   obtain ⟨y307, hy307⟩ : ∃ y_ : List (S74), y_ = (List.replicate ((l0.length : Int) : Int).toNat z74) := ⟨_, rfl⟩
   replace H : (laws_toCompS.l0 k l0 y307 0) = some r := by first | (rw [hy307]; with_reducible exact H) | (have H2_ := (Option.bind_some _ _).symm.trans H; rw [hy307]; with_reducible exact H2_) | (have H2_ := (Option.bind_some _ _).symm.trans H; with_reducible exact H2_) | with_reducible exact H | (rw [hy307]; exact H) | exact H
   have Ny307 := aM hy307
   clear hy307
   have H' := aM H
   clear H
   go_enter Try.func45, Try.ntmps45
   go_wp2_with (first | ((with_reducible refine gate_dst (N := 7) rfl ?_); refine Kd.R_make k74 _ 74 rfl (N := 7) rfl 35 _ _ rfl (l0.length : Int) rfl rfl Try.underlying35 (.agg #[(.int .i64 0), (.int .i64 0), (.int .i64 0), (.int .i64 0)]) 32 info74 rfl (by decide) (by omega) z74 (ok := fun _ => True) (okp := fun _ => True) (k74_mkM _ _ _ z74 ) (fun _ hk => hk) trivial (zA) (Nat.le_trans (Nat.mul_le_mul_right _ (zA : (l0.length : Int).toNat ≤ 8796093022208)) (by omega)) (Below.refl _ _) (Nat.le_refl _) ?_; intro v308 w4 ho5 hb hg_ hnew_; clear hg_ hnew_; (first | rw [← Ny307.out] at ho5 | (simp only [Int.reduceToNat] at ho5; rw [← Ny307.out] at ho5)); have HO309 := aM (Kd.R_lower ho5 (below_size zH)); replace HB := cH HB hb; clear hb ho5))
   go_loopg [4] k (fun kq v4 w' => ∃ (x3_1 : List (S74)) (x4_1 : Int), v4 = .int .i64 x4_1 ∧ Aside0 (laws_toCompS.l0 kq l0 x3_1 x4_1 = some r) ∧ Aside0 (kq ≤ k) ∧ Aside0 (Kd.R k74 74 w' w.heap.size (fun _ => True) v308 x3_1) ∧ Aside0 (Below w.heap.size w w'))
   case atStart => exact ⟨(y307), (0), zS, H', ⟨Nat.le_refl _⟩, ⟨by (with_reducible repeat (first | apply Kd.R_alloc | apply Kd.R_drewN | apply Kd.R_drew)); exact HO309.out⟩, ⟨zH⟩⟩
   case round =>
    clear H'
    (try clear c2b0); (try clear c2b1); (try clear c3b0); (try clear c3b1)
    obtain ⟨x3_1, x4_1, rfl, HA, HK1, HO_3, HB⟩ := hrel
    cases gk with
    | zero => exact absurd HA.out (by simp [laws_toCompS.l0])
    | succ k1 =>
     have H := HA.out
     clear HA
     simp only [laws_toCompS.l0] at H
     by_cases c6 : x4_1 < (l0.length : Int)
     ·rw [if_pos c6] at H
      have c6b0 : decide (x4_1 < (l0.length : Int)) = true := decide_eq_true c6
      clear c6
      by_cases c7 : 0 ≤ x4_1
      ·rw [if_pos c7] at H
       have c7b0 : decide (0 ≤ x4_1) = true := decide_eq_true c7
       clear c7
       replace H := oB H
       obtain ⟨⟨t311, t312, t313, t314⟩, A80, H⟩ := H
       replace H : (if x4_1 < (x3_1.length : Int) then (laws_toCompS.l0 k1 l0 (x3_1.set (x4_1 : Int).toNat (⟨t311, t312, t313, t314⟩ : S74)) (wrap64 (x4_1 + 1))) else (none)) = some r := H
       have A8 := aM A80
       clear A80
       by_cases c9 : x4_1 < (x3_1.length : Int)
       ·rw [if_pos c9] at H
        have c9b0 : decide (x4_1 < (x3_1.length : Int)) = true := decide_eq_true c9
        clear c9
        obtain ⟨y315, hy315⟩ : ∃ y_ : List (S74), y_ = (x3_1.set (x4_1 : Int).toNat (⟨t311, t312, t313, t314⟩ : S74)) := ⟨_, rfl⟩
        replace H : (laws_toCompS.l0 k1 l0 y315 (wrap64 (x4_1 + 1))) = some r := by first | (rw [hy315]; with_reducible exact H) | (have H2_ := (Option.bind_some _ _).symm.trans H; rw [hy315]; with_reducible exact H2_) | (have H2_ := (Option.bind_some _ _).symm.trans H; with_reducible exact H2_) | with_reducible exact H | (rw [hy315]; exact H) | exact H
        have Ny315 := aM hy315
        clear hy315
        have H' := aM H
        clear H
        have p310 : 0 ≤ (x4_1 : Int) := zA
        have q310 : x4_1 < (l0.length : Int) := zA
        obtain ⟨ad310, e310, hx310_0, hx310_1, hx310_2, hx310_3⟩ := at_T98 HR0.out x4_1 p310 q310
        cases e310
        replace hx310_0 := hX HB hx310_0
        replace hx310_1 := hX HB hx310_1
        replace hx310_2 := hX HB hx310_2
        replace hx310_3 := hX HB hx310_3
        replace p310 := eq_true p310
        replace q310 := eq_true q310
        go_wp2_with (first | (go_at_call 64; (with_reducible refine (laws_toComp.calls ((rd_T98 l0 x4_1).f0) ((rd_T98 l0 x4_1).f1) ((rd_T98 l0 x4_1).f2) ((rd_T98 l0 x4_1).f3) t311 t312 t313 t314 _ A8.out).mono ?_); rintro e w11 ⟨rfl, hb⟩; replace HO_3 := aM (Kd.R_below (by (with_reducible repeat (first | apply Kd.R_alloc | apply Kd.R_drewN | apply Kd.R_drew)); exact HO_3.out) hb); replace HB := cH HB hb; (try clear hb); (try clear hk); have p10 : 0 ≤ (x4_1 : Int) := zA; have q10 : (x4_1 : Int) < ((x3_1.length : Int) : Int) := zA; obtain ⟨go10, co10, eo10, gb10, gl10, cl10, HG10⟩ := Kd.R_form HO_3.out (by omega); (first | cases eo10 | (injection eo10 with ea_ en_ ec_; (first | subst ea_ | (injection ea_ with ea_; subst ea_)); subst ec_; clear en_)); have GB10 := aM gb10; have GG10 := aM HG10; clear gb10 gl10 HG10; obtain ⟨ce10, hcl10, hM10, hcc10, hfr10⟩ := Kd.R_elem HO_3.out z74 (x4_1 : Int) p10 q10; obtain rfl := k74_openM hM10; have hx10_0 : w11.cell? ⟨go10, (x4_1 : Int).toNat * 4, none⟩ = some (.int .i64 ((rd_T74 x3_1 x4_1).f0)) := hcc10 0 _ rfl; have hx10_1 : w11.cell? ⟨go10, (x4_1 : Int).toNat * 4 + 1, none⟩ = some (.int .i64 ((rd_T74 x3_1 x4_1).f1)) := hcc10 1 _ rfl; have hx10_2 : w11.cell? ⟨go10, (x4_1 : Int).toNat * 4 + 2, none⟩ = some (.int .i64 ((rd_T74 x3_1 x4_1).f2)) := hcc10 2 _ rfl; have hx10_3 : w11.cell? ⟨go10, (x4_1 : Int).toNat * 4 + 3, none⟩ = some (.int .i64 ((rd_T74 x3_1 x4_1).f3)) := hcc10 3 _ rfl; have hf10_0 : w11.frozen? ⟨go10, (x4_1 : Int).toNat * 4, none⟩ = false := hfr10 0; have hf10_1 : w11.frozen? ⟨go10, (x4_1 : Int).toNat * 4 + 1, none⟩ = false := hfr10 1; have hf10_2 : w11.frozen? ⟨go10, (x4_1 : Int).toNat * 4 + 2, none⟩ = false := hfr10 2; have hf10_3 : w11.frozen? ⟨go10, (x4_1 : Int).toNat * 4 + 3, none⟩ = false := hfr10 3; (try clear hcl10); (try clear hcc10); (try clear hfr10); (try clear hM10); replace p10 := eq_true p10; replace q10 := eq_true q10; have HX12 := aM (show Kd.R k74 74 w11 w.heap.size (fun _ => True) (.slice (some ⟨go10, 0, none⟩) x3_1.length co10) x3_1 from (by (with_reducible repeat (first | apply Kd.R_alloc | apply Kd.R_drewN | apply Kd.R_drew)); exact HO_3.out)); obtain ⟨ce12, hcl12, hM12, hcc12, hfr12⟩ := Kd.R_elem HX12.out z74 (x4_1 : Int) (zA) (by have h_ : (x4_1 : Int) < ((x3_1.length : Int) : Int) := zA; first | exact h_ | (have e_ := (Kd.R_reads' HO_3.out).1; omega) | simpa using h_); obtain rfl := k74_openM hM12; have HP12 := Kd.R_seg HX12.out (x4_1 : Int) (zA) (by have h_ : (x4_1 : Int) < ((x3_1.length : Int) : Int) := zA; first | exact h_ | (have e_ := (Kd.R_reads' HO_3.out).1; omega) | simpa using h_) (seg := [.int .i64 t311, .int .i64 t312, .int .i64 t313, .int .i64 t314]) (j := 0) hcl12 hcc12 (show 4 ≤ 4 from by decide) (x' := (⟨t311, t312, t313, t314⟩ : S74)) (k74_mkM _ _ _ (⟨t311, t312, t313, t314⟩ : S74) ) (fun _ hk => hk); have hx12_0 := hcc12 0 _ rfl; (try simp only [show (k74).sz = 4 from rfl, Nat.mul_one, Nat.add_zero] at hx12_0); have hf12_0 := hfr12 0; (try simp only [show (k74).sz = 4 from rfl, Nat.mul_one, Nat.add_zero] at hf12_0); have hx12_1 := hcc12 1 _ rfl; (try simp only [show (k74).sz = 4 from rfl, Nat.mul_one, Nat.add_zero] at hx12_1); have hf12_1 := hfr12 1; (try simp only [show (k74).sz = 4 from rfl, Nat.mul_one, Nat.add_zero] at hf12_1); have hx12_2 := hcc12 2 _ rfl; (try simp only [show (k74).sz = 4 from rfl, Nat.mul_one, Nat.add_zero] at hx12_2); have hf12_2 := hfr12 2; (try simp only [show (k74).sz = 4 from rfl, Nat.mul_one, Nat.add_zero] at hf12_2); have hx12_3 := hcc12 3 _ rfl; (try simp only [show (k74).sz = 4 from rfl, Nat.mul_one, Nat.add_zero] at hx12_3); have hf12_3 := hfr12 3; (try simp only [show (k74).sz = 4 from rfl, Nat.mul_one, Nat.add_zero] at hf12_3); (try clear hcl12); (try clear hcc12); (try clear hfr12); (try clear hM12)) | ((with_reducible refine gate_store (t := 74) (p := 21) rfl ?_); refine store_event (t := 74) (p := 21) (v := ?vo_w13) (w1 := ((((w11.setCell ⟨go10, (x4_1 : Int).toNat * 4, none⟩ (.int .i64 t311)).setCell ⟨go10, (x4_1 : Int).toNat * 4 + 1, none⟩ (.int .i64 t312)).setCell ⟨go10, (x4_1 : Int).toNat * 4 + 2, none⟩ (.int .i64 t313)).setCell ⟨go10, (x4_1 : Int).toNat * 4 + 3, none⟩ (.int .i64 t314))) ?hg ?ho ?hn ?hr ?_; (case ho => rfl); (case hg => rfl); (case hn => rfl); (case hr => first | (go_simp; done) | (go_simp; rfl)); intro w13 hw; have hg : w11.grownBy w13 (some go10) := (by rw [hw]; exact HP12.2); have hp_ : Kd.R k74 74 w13 w.heap.size (fun _ => True) (.slice (some ⟨go10, 0, none⟩) x3_1.length co10) y315 := (by rw [hw, Ny315.out]; exact HP12.1); clear HP12; replace HO_3 := aM (hp_); replace HB := aM ((by rw [hw]; exact bS (bS (bS (bS (HB.out) GB10.out) GB10.out) GB10.out) GB10.out : Below w.heap.size w w13)); clear hg hw hp_))
        go_roundg k1
        case measure => have := HK1.out; omega
        case rel => exact ⟨(y315), (wrap64 (x4_1 + 1)), zS, H', ⟨by have := HK1.out; omega⟩, ⟨by (with_reducible repeat (first | apply Kd.R_alloc | apply Kd.R_drewN | apply Kd.R_drew)); exact HO_3.out⟩, ⟨zH⟩⟩
       ·rw [if_neg c9] at H
        exact absurd H (by simp)
      ·rw [if_neg c7] at H
       exact absurd H (by simp)
     ·rw [if_neg c6] at H
      have c6b0 : decide (x4_1 < (l0.length : Int)) = false := decide_eq_false c6
      clear c6
      obtain rfl := Option.some.inj H
      go_wp2
      go_ret
      exact ⟨_, zR, by (with_reducible repeat (first | apply Kd.R_alloc | apply Kd.R_drewN | apply Kd.R_drew)); exact HO_3.out, zH⟩
  ·rw [if_neg c3] at H
   exact absurd H (by simp)
 ·rw [if_neg c2] at H
  exact absurd H (by simp)

def convC (x : S98) : S74 := ⟨x.f0, x.f1, x.f2, x.f3⟩
theorem toCompS_l0 (l : List S98) (hl : l.length ≤ 1048576) : ∀ (d i : Nat) (m : List S74), i + d = l.length → m.length = l.length → m.take i = (l.map convC).take i → Ev (fun k => laws_toCompS.l0 k l m i) (l.map convC) := by
  intro d
  induction d with
  | zero =>
    intro i m hi hm ht
    refine Ev.step (fun k => by rw [laws_toCompS.l0]) ?_
    rw [List.take_of_length_le (by omega), List.take_of_length_le (by rw [List.length_map]; omega)] at ht
    subst ht
    exact evNeg (by omega) (Ev.now _)
  | succ d ih =>
    intro i m hi hm ht
    have h1 : i < l.length := by omega
    refine Ev.step (fun k => by rw [laws_toCompS.l0]) ?_
    refine evPos (by omega) (evPos (by omega) (evBind (evConst rfl) (evPos (by omega) ?_)))
    rw [w64 (by omega) (by omega), Int.toNat_natCast, show rd_T98 l (i : Int) = l[i] from by simp [rd_T98, List.getD, h1]]
    refine ih (i + 1) _ (by omega) (by simp [hm]) ?_
    rw [List.take_succ_eq_append_getElem (by simp; omega), List.take_succ_eq_append_getElem (by simpa using h1), List.take_set_of_le (Nat.le_refl _), ht]
    simp [convC]
theorem toCompS_f (l : List S98) (hl : l.length ≤ 1048576) : Ev (fun k => laws_toCompS.f k l) (l.map convC) := by
  unfold laws_toCompS.f
  refine evPos (by omega) (evPos (by omega) ?_)
  exact toCompS_l0 l hl l.length 0 _ (by omega) (by simp) (by simp)

/-! ### laws_toFrame: function 19 -/
def laws_toFrame.f (k : Nat) (a0_0 : Int) (a0_1 : Int) (a0_2 : Int) (a0_3 : Int) (l0_4 : List (S98)) : Option (Int × Int × Int × Int × (List (S74))) := (laws_toCompS.f k l0_4).bind fun t319 => (some (a0_0, a0_1, a0_2, a0_3, t319))
theorem laws_toFrame.mono : ∀ a0 a1 a2 a3 a4 k, LeO (laws_toFrame.f k a0 a1 a2 a3 a4) (laws_toFrame.f (k + 1) a0 a1 a2 a3 a4) := by
 intro a0 a1 a2 a3 a4 k
 unfold laws_toFrame.f
 repeat' first
   | (with_reducible exact laws_toCompS.mono _ _)
   | (with_reducible exact LeO.refl _)
   | (with_reducible exact LeO.none _)
   | (with_reducible refine LeO.ite ?_ ?_)
   | (with_reducible refine LeO.bind ?_ (fun _ => ?_))
   | exact laws_toCompS.mono _ _
   | exact LeO.none _
   | refine LeO.ite ?_ ?_
   | refine LeO.bind ?_ (fun _ => ?_)
set_option maxHeartbeats 8000000 in
set_option maxRecDepth 100000 in
theorem laws_toFrame.calls (k : Nat) (a0_0 : Int) (a0_1 : Int) (a0_2 : Int) (a0_3 : Int) (A0_4 : Option Addr) (c0_4 : Nat) (l0_4 : List (S98)) (r1 : Int) (r2 : Int) (r3 : Int) (r4 : Int) (r5 : List (S74)) (w : World) (hr0_4 : Kd.C k98 w A0_4 l0_4.length l0_4) (hc0_4 : l0_4.length ≤ c0_4) (h : laws_toFrame.f k a0_0 a0_1 a0_2 a0_3 l0_4 = some (r1, r2, r3, r4, r5)) :
  Calls Try.prog 19 #[.agg #[.int .i64 a0_0, .int .i64 a0_1, .int .i64 a0_2, .int .i64 a0_3, .slice A0_4 l0_4.length c0_4]] w fun e w' => ∃ v4_ : Value, e = .returned (.agg #[.int .i64 r1, .int .i64 r2, .int .i64 r3, .int .i64 r4, v4_]) ∧ Kd.R k74 74 w' w.heap.size (fun _ => True) v4_ r5 ∧ Below w.heap.size w w' := by
 have hu24 := Try.underlying24
 have hu37 := Try.underlying37
 have HR0_4 := aM hr0_4
 have HC0_4 := aM hc0_4
 clear hr0_4 hc0_4
 have HB := aM (Below.refl w.heap.size w)
 have H : ((laws_toCompS.f k l0_4).bind fun t319 => (some (a0_0, a0_1, a0_2, a0_3, t319))) = some (r1, r2, r3, r4, r5) := h
 clear h
 obtain ⟨t319, A2, H⟩ := oH H
 simp only [Option.some.injEq, Prod.mk.injEq] at H
 obtain ⟨rfl, rfl, rfl, rfl, rfl⟩ := H
 go_enter Try.func19, Try.ntmps19
 go_wp2_with (first | ((with_reducible refine gate_dst (N := 1) rfl ?_); refine box_event ?hg (N := 1) ?hd (cs := #[.int .i64 a0_0, .int .i64 a0_1, .int .i64 a0_2, .int .i64 a0_3, .slice A0_4 l0_4.length c0_4]) (t := 24) ?hr ?_; (case hd => rfl); (case hg => rfl); (case hr => first | (go_simp; done) | (go_simp; rfl)); intro gb316 hg w3 hbox hb; have BK316 := aM hbox; have GW316 := aM (zG hg : w.heap.size ≤ gb316); have GE316 := aM (zG hg : w.heap.size ≤ gb316); replace HB := cH HB hb; clear hb hbox hg) | ((with_reducible refine gate_dst (N := 2) rfl ?_); refine box_event ?hg (N := 2) ?hd (cs := #[.int .i64 0, .int .i64 0, .int .i64 0, .int .i64 0, .slice none 0 0]) (t := 37) ?hr ?_; (case hd => rfl); (case hg => rfl); (case hr => first | (go_simp; done) | (go_simp; rfl)); intro gb317 hg w4 hbox hb; have BK317 := aM hbox; have GW317 := aM (zG hg : w.heap.size ≤ gb317); have GE317 := aM (zG hg : w.heap.size ≤ gb317); replace HB := cH HB hb; have NB316_317 := aM ((zL hg BK316)); have NB317_316 := aM ((zM hg BK316)); replace BK316 := cB BK316 hb; clear hb hbox hg) | ((with_reducible refine gate_dst (N := 3) rfl ?_); refine box_event ?hg (N := 3) ?hd (cs := #[.int .i64 0, .int .i64 0, .int .i64 0, .int .i64 0, .slice none 0 0]) (t := 37) ?hr ?_; (case hd => rfl); (case hg => rfl); (case hr => first | (go_simp; done) | (go_simp; rfl)); intro gb318 hg w5 hbox hb; have BK318 := aM hbox; have GW318 := aM (zG hg : w.heap.size ≤ gb318); have GE318 := aM (zG hg : w.heap.size ≤ gb318); replace HB := cH HB hb; have NB316_318 := aM ((zL hg BK316)); have NB318_316 := aM ((zM hg BK316)); replace BK316 := cB BK316 hb; have NB317_318 := aM ((zL hg BK317)); have NB318_317 := aM ((zM hg BK317)); replace BK317 := cB BK317 hb; clear hb hbox hg; have hnb6 := NB316_317.out; have hnc6 := NB317_316.out; have hnb7 := NB316_318.out; have hnc7 := NB318_316.out; obtain ⟨hcz8_0, hcz8_1, hcz8_2, hcz8_3, hcz8_4⟩ := kk5 BK316; obtain ⟨hfz8_0, hfz8_1, hfz8_2, hfz8_3, hfz8_4⟩ := kg5 BK316; have hnb9 := NB318_317.out; have hnc9 := NB317_318.out; obtain ⟨hcz10_0, hcz10_1, hcz10_2, hcz10_3, hcz10_4⟩ := kk5 BK318; obtain ⟨hfz10_0, hfz10_1, hfz10_2, hfz10_3, hfz10_4⟩ := kg5 BK318) | (go_at_call 45; (with_reducible refine (laws_toCompS.calls k _ _ l0_4 t319 _ ?side1 ?side2 A2.out).mono ?_); (case side1 => exact Kd.C_below HR0_4.out zH); (case side2 => exact HC0_4.out); rintro e w11 ⟨v320, rfl, ho0, hb⟩; have HO321 := aM (Kd.R_lower ho0 (below_size zH)); replace BK316 := aM (blk_below (g := gb316) (o := .cells #[.int .i64 a0_0, .int .i64 a0_1, .int .i64 a0_2, .int .i64 a0_3, .slice A0_4 l0_4.length c0_4] 24 (0, 0)) (by (with_reducible repeat (first | apply kN | apply kD | apply kA)); refine blk_far ?_ NB316_318.out _; (with_reducible repeat (first | apply kN | apply kD | apply kA)); refine blk_far ?_ NB316_318.out _; (with_reducible repeat (first | apply kN | apply kD | apply kA)); refine blk_far ?_ NB316_318.out _; (with_reducible repeat (first | apply kN | apply kD | apply kA)); refine blk_far ?_ NB316_318.out _; (with_reducible repeat (first | apply kN | apply kD | apply kA)); exact BK316.out) hb); replace BK317 := aM (blk_below (g := gb317) (o := .cells #[.int .i64 0, .int .i64 0, .int .i64 0, .int .i64 0, .slice none 0 0] 37 (0, 0)) (by (with_reducible repeat (first | apply kN | apply kD | apply kA)); refine blk_far ?_ NB317_318.out _; (with_reducible repeat (first | apply kN | apply kD | apply kA)); refine blk_far ?_ NB317_318.out _; (with_reducible repeat (first | apply kN | apply kD | apply kA)); refine blk_far ?_ NB317_318.out _; (with_reducible repeat (first | apply kN | apply kD | apply kA)); refine blk_far ?_ NB317_318.out _; (with_reducible repeat (first | apply kN | apply kD | apply kA)); exact BK317.out) hb); replace BK318 := aM (blk_below (g := gb318) (o := .cells #[.int .i64 a0_0, .int .i64 a0_1, .int .i64 a0_2, .int .i64 a0_3, .slice none 0 0] 37 (0, 0)) (by (with_reducible repeat (first | apply kN | apply kD | apply kA)); refine blk_put (cs := #[.int .i64 a0_0, .int .i64 a0_1, .int .i64 a0_2, .int .i64 0, .slice none 0 0]) ?_ 3 _ rfl; (with_reducible repeat (first | apply kN | apply kD | apply kA)); refine blk_put (cs := #[.int .i64 a0_0, .int .i64 a0_1, .int .i64 0, .int .i64 0, .slice none 0 0]) ?_ 2 _ rfl; (with_reducible repeat (first | apply kN | apply kD | apply kA)); refine blk_put (cs := #[.int .i64 a0_0, .int .i64 0, .int .i64 0, .int .i64 0, .slice none 0 0]) ?_ 1 _ rfl; (with_reducible repeat (first | apply kN | apply kD | apply kA)); refine blk_put (cs := #[.int .i64 0, .int .i64 0, .int .i64 0, .int .i64 0, .slice none 0 0]) ?_ 0 _ rfl; (with_reducible repeat (first | apply kN | apply kD | apply kA)); exact BK318.out) hb); replace HB := cH HB hb; (try clear hb); (try clear ho0); obtain ⟨Ao12, co12, eo12⟩ := Kd.R_slice HO321.out; subst eo12; obtain ⟨hcz13_0, hcz13_1, hcz13_2, hcz13_3, hcz13_4⟩ := kk5 BK318; obtain ⟨hfz13_0, hfz13_1, hfz13_2, hfz13_3, hfz13_4⟩ := kg5 BK318; obtain ⟨hcz14_0, hcz14_1, hcz14_2, hcz14_3, hcz14_4⟩ := kk5 BK317; obtain ⟨hfz14_0, hfz14_1, hfz14_2, hfz14_3, hfz14_4⟩ := kg5 BK317))
 refine bodyPost_ret (results_cell_row rfl _ _ gb317 37 #[.int .i64 a0_0, .int .i64 a0_1, .int .i64 a0_2, .int .i64 a0_3, .slice Ao12 t319.length co12] (0, 0) _ rfl (by (with_reducible repeat (first | apply kN | apply kD | apply kA)); refine blk_put (cs := #[.int .i64 a0_0, .int .i64 a0_1, .int .i64 a0_2, .int .i64 a0_3, .slice none 0 0]) ?_ 4 _ rfl; (with_reducible repeat (first | apply kN | apply kD | apply kA)); refine blk_put (cs := #[.int .i64 a0_0, .int .i64 a0_1, .int .i64 a0_2, .int .i64 0, .slice none 0 0]) ?_ 3 _ rfl; (with_reducible repeat (first | apply kN | apply kD | apply kA)); refine blk_put (cs := #[.int .i64 a0_0, .int .i64 a0_1, .int .i64 0, .int .i64 0, .slice none 0 0]) ?_ 2 _ rfl; (with_reducible repeat (first | apply kN | apply kD | apply kA)); refine blk_put (cs := #[.int .i64 a0_0, .int .i64 0, .int .i64 0, .int .i64 0, .slice none 0 0]) ?_ 1 _ rfl; (with_reducible repeat (first | apply kN | apply kD | apply kA)); refine blk_put (cs := #[.int .i64 0, .int .i64 0, .int .i64 0, .int .i64 0, .slice none 0 0]) ?_ 0 _ rfl; (with_reducible repeat (first | apply kN | apply kD | apply kA)); refine blk_far ?_ NB317_318.out _; (with_reducible repeat (first | apply kN | apply kD | apply kA)); exact BK317.out) Try.underlying37 rfl (by kernel_rfl)) rfl ?_
 exact ⟨_, zR, by (with_reducible repeat (first | apply Kd.R_alloc | apply Kd.R_drewN | apply Kd.R_drew)); exact Kd.R_mono (Kd.R_far (p := ⟨gb317, 4, none⟩) (Kd.R_far (p := ⟨gb317, 3, none⟩) (Kd.R_far (p := ⟨gb317, 2, none⟩) (Kd.R_far (p := ⟨gb317, 1, none⟩) (Kd.R_far (p := ⟨gb317, 0, none⟩) (Kd.R_far (p := ⟨gb318, 4, none⟩) (Kd.R_types (Kd.R_types HO321.out BK318.out (by decide)) BK317.out (by decide)) (fun _ hk => hk.1.2) (.slice Ao12 t319.length co12)) (fun _ hk => hk.2) (.int .i64 a0_0)) (fun _ hk => hk.2) (.int .i64 a0_1)) (fun _ hk => hk.2) (.int .i64 a0_2)) (fun _ hk => hk.2) (.int .i64 a0_3)) (fun _ hk => hk.2) (.slice Ao12 t319.length co12)) (fun _ hk => trivial), zH⟩

theorem toFrame_f (p w h r : Int) (l : List S98) (hl : l.length ≤ 1048576) : Ev (fun k => laws_toFrame.f k p w h r l) (p, w, h, r, l.map convC) := by
  unfold laws_toFrame.f
  exact evBind (toCompS_f l hl) (Ev.now _)

/-! ### laws_toByteS: function 23 -/
def laws_toByteS.l0 : Nat → List Int → List Int → Int → Option (List Int)
  | 0, _, _, _ => none
  | k + 1, x0, x3, x4 => if x4 < (x0.length : Int) then (if 0 ≤ x4 then (if x4 < (x3.length : Int) then (laws_toByteS.l0 k x0 (x3.set (x4 : Int).toNat (rd x0 x4)) (wrap64 (x4 + 1))) else (none)) else (none)) else (some x3)
def laws_toByteS.f (k : Nat) (l0 : List Int) : Option (List Int) := if 0 ≤ (l0.length : Int) then (if ((l0.length : Int) : Int).toNat ≤ 281474976710656 then (laws_toByteS.l0 k l0 (List.replicate ((l0.length : Int) : Int).toNat 0) 0) else (none)) else (none)
theorem laws_toByteS.mono_l : ∀ k, (∀ y0 y1 y2, LeO (laws_toByteS.l0 k y0 y1 y2) (laws_toByteS.l0 (k + 1) y0 y1 y2))
 | 0 => fun _ _ _ r h => by simp [laws_toByteS.l0] at h
 | k + 1 => by
  have ih0 := laws_toByteS.mono_l k
  ·intro y0 y1 y2
   unfold laws_toByteS.l0
   repeat' first
   | (with_reducible exact ih0 _ _ _)
   | (with_reducible exact LeO.refl _)
   | (with_reducible exact LeO.none _)
   | (with_reducible refine LeO.ite ?_ ?_)
   | (with_reducible refine LeO.bind ?_ (fun _ => ?_))
   | exact ih0 _ _ _
   | exact LeO.none _
   | refine LeO.ite ?_ ?_
   | refine LeO.bind ?_ (fun _ => ?_)
theorem laws_toByteS.mono : ∀ a0 k, LeO (laws_toByteS.f k a0) (laws_toByteS.f (k + 1) a0) := by
 intro a0 k
 have ih0 := laws_toByteS.mono_l k
 unfold laws_toByteS.f
 repeat' first
   | (with_reducible exact ih0 _ _ _)
   | (with_reducible exact LeO.refl _)
   | (with_reducible exact LeO.none _)
   | (with_reducible refine LeO.ite ?_ ?_)
   | (with_reducible refine LeO.bind ?_ (fun _ => ?_))
   | exact ih0 _ _ _
   | exact LeO.none _
   | refine LeO.ite ?_ ?_
   | refine LeO.bind ?_ (fun _ => ?_)
set_option maxHeartbeats 8000000 in
set_option maxRecDepth 100000 in
theorem laws_toByteS.calls (k : Nat) (A0 : Option Addr) (c0 : Nat) (l0 : List Int) (r : List Int) (w : World) (hr0 : Kd.C (Kd.int .u8) w A0 l0.length l0) (hc0 : l0.length ≤ c0) (h : laws_toByteS.f k l0 = some r) :
  Calls Try.prog 23 #[.slice A0 l0.length c0] w fun e w' => ∃ v0_ : Value, e = .returned (v0_) ∧ Kd.R (Kd.int .u8) 5 w' w.heap.size (fun _ => True) v0_ r ∧ Below w.heap.size w w' := by
 have HR0 := aM hr0
 have HC0 := aM hc0
 clear hr0 hc0
 have HB := aM (Below.refl w.heap.size w)
 have H : (if 0 ≤ (l0.length : Int) then (if ((l0.length : Int) : Int).toNat ≤ 281474976710656 then (laws_toByteS.l0 k l0 (List.replicate ((l0.length : Int) : Int).toNat 0) 0) else (none)) else (none)) = some r := h
 clear h
 by_cases c2 : 0 ≤ (l0.length : Int)
 ·rw [if_pos c2] at H
  have c2b0 := eq_true c2
  have c2b1 : decide (0 ≤ (l0.length : Int)) = true := decide_eq_true c2
  clear c2
  by_cases c3 : ((l0.length : Int) : Int).toNat ≤ 281474976710656
  ·rw [if_pos c3] at H
   have c3b0 := eq_true c3
   have c3b1 : decide (((l0.length : Int) : Int).toNat ≤ 281474976710656) = true := decide_eq_true c3
   clear c3
   obtain ⟨y322, hy322⟩ : ∃ y_ : List Int, y_ = (List.replicate ((l0.length : Int) : Int).toNat 0) := ⟨_, rfl⟩
   replace H : (laws_toByteS.l0 k l0 y322 0) = some r := by first | (rw [hy322]; with_reducible exact H) | (have H2_ := (Option.bind_some _ _).symm.trans H; rw [hy322]; with_reducible exact H2_) | (have H2_ := (Option.bind_some _ _).symm.trans H; with_reducible exact H2_) | with_reducible exact H | (rw [hy322]; exact H) | exact H
   have Ny322 := aM hy322
   clear hy322
   have H' := aM H
   clear H
   go_enter Try.func23, Try.ntmps23
   go_wp2_with (first | ((with_reducible refine gate_dst (N := 7) rfl ?_); refine Kd.R_make (Kd.int .u8) _ 5 rfl (N := 7) rfl 30 _ _ rfl (l0.length : Int) rfl rfl Try.underlying30 (.int .u8 0) 1 info5 rfl (by decide) (by omega) 0 (ok := fun _ => True) (okp := fun _ => True) rfl (fun _ hk => hk) trivial (zA) (Nat.le_trans (Nat.mul_le_mul_right _ (zA : (l0.length : Int).toNat ≤ 281474976710656)) (by omega)) (Below.refl _ _) (Nat.le_refl _) ?_; intro v323 w4 ho5 hb hg_ hnew_; clear hg_ hnew_; (first | rw [← Ny322.out] at ho5 | (simp only [Int.reduceToNat] at ho5; rw [← Ny322.out] at ho5)); have HO324 := aM (Kd.R_lower ho5 (below_size zH)); replace HB := cH HB hb; clear hb ho5))
   go_loopg [4] k (fun kq v4 w' => ∃ (x3_1 : List Int) (x4_1 : Int), v4 = .int .i64 x4_1 ∧ Aside0 (laws_toByteS.l0 kq l0 x3_1 x4_1 = some r) ∧ Aside0 (kq ≤ k) ∧ Aside0 (Kd.R (Kd.int .u8) 5 w' w.heap.size (fun _ => True) v323 x3_1) ∧ Aside0 (Below w.heap.size w w'))
   case atStart => exact ⟨(y322), (0), zS, H', ⟨Nat.le_refl _⟩, ⟨by (with_reducible repeat (first | apply Kd.R_alloc | apply Kd.R_drewN | apply Kd.R_drew)); exact HO324.out⟩, ⟨zH⟩⟩
   case round =>
    clear H'
    (try clear c2b0); (try clear c2b1); (try clear c3b0); (try clear c3b1)
    obtain ⟨x3_1, x4_1, rfl, HA, HK1, HO_3, HB⟩ := hrel
    cases gk with
    | zero => exact absurd HA.out (by simp [laws_toByteS.l0])
    | succ k1 =>
     have H := HA.out
     clear HA
     simp only [laws_toByteS.l0] at H
     by_cases c6 : x4_1 < (l0.length : Int)
     ·rw [if_pos c6] at H
      have c6b0 : decide (x4_1 < (l0.length : Int)) = true := decide_eq_true c6
      clear c6
      by_cases c7 : 0 ≤ x4_1
      ·rw [if_pos c7] at H
       have c7b0 : decide (0 ≤ x4_1) = true := decide_eq_true c7
       clear c7
       by_cases c8 : x4_1 < (x3_1.length : Int)
       ·rw [if_pos c8] at H
        have c8b0 : decide (x4_1 < (x3_1.length : Int)) = true := decide_eq_true c8
        clear c8
        obtain ⟨y326, hy326⟩ : ∃ y_ : List Int, y_ = (x3_1.set (x4_1 : Int).toNat (rd l0 x4_1)) := ⟨_, rfl⟩
        replace H : (laws_toByteS.l0 k1 l0 y326 (wrap64 (x4_1 + 1))) = some r := by first | (rw [hy326]; with_reducible exact H) | (have H2_ := (Option.bind_some _ _).symm.trans H; rw [hy326]; with_reducible exact H2_) | (have H2_ := (Option.bind_some _ _).symm.trans H; with_reducible exact H2_) | with_reducible exact H | (rw [hy326]; exact H) | exact H
        have Ny326 := aM hy326
        clear hy326
        have H' := aM H
        clear H
        have p325 : 0 ≤ (x4_1 : Int) := zA
        have q325 : x4_1 < (l0.length : Int) := zA
        obtain ⟨ad325, e325, hx325_0⟩ := Kd.at_int HR0.out x4_1 p325 q325
        cases e325
        replace hx325_0 := hX HB hx325_0
        replace p325 := eq_true p325
        replace q325 := eq_true q325
        have p9 : 0 ≤ (x4_1 : Int) := zA
        have q9 : (x4_1 : Int) < ((x3_1.length : Int) : Int) := zA
        obtain ⟨go9, co9, eo9, gb9, gl9, cl9, HG9⟩ := Kd.R_form HO_3.out (by omega)
        (first | cases eo9 | (injection eo9 with ea_ en_ ec_; (first | subst ea_ | (injection ea_ with ea_; subst ea_)); subst ec_; clear en_))
        have GB9 := aM gb9
        have GG9 := aM HG9
        clear gb9 gl9 HG9
        obtain ⟨hx9_0, hf9_0⟩ := Kd.R_celln 0 HO_3.out (x4_1 : Int) p9 q9
        replace p9 := eq_true p9
        replace q9 := eq_true q9
        have HP10 := Kd.R_putg HO_3.out (x4_1 : Int) (rd l0 x4_1)
        go_wp2_with (first | ((with_reducible refine gate_store (t := 5) (p := 20) rfl ?_); refine store_event (t := 5) (p := 20) (v := ?vo_w11) (w1 := (wr.setCell ⟨go9, (x4_1 : Int).toNat, none⟩ (.int .u8 (rd l0 x4_1)))) ?hg ?ho ?hn ?hr ?_; (case ho => rfl); (case hg => rfl); (case hn => rfl); (case hr => first | (go_simp; done) | (go_simp; rfl)); intro w11 hw; have hg : wr.grownBy w11 (some go9) := (by rw [hw]; exact HP10.2); have hp_ : Kd.R (Kd.int .u8) 5 w11 w.heap.size (fun _ => True) (.slice (some ⟨go9, 0, none⟩) x3_1.length co9) y326 := (by rw [hw, Ny326.out]; exact HP10.1); clear HP10; replace HO_3 := aM (hp_); replace HB := aM ((by rw [hw]; exact bS (HB.out) GB9.out : Below w.heap.size w w11)); clear hg hw hp_))
        go_roundg k1
        case measure => have := HK1.out; omega
        case rel => exact ⟨(y326), (wrap64 (x4_1 + 1)), zS, H', ⟨by have := HK1.out; omega⟩, ⟨by (with_reducible repeat (first | apply Kd.R_alloc | apply Kd.R_drewN | apply Kd.R_drew)); exact HO_3.out⟩, ⟨zH⟩⟩
       ·rw [if_neg c8] at H
        exact absurd H (by simp)
      ·rw [if_neg c7] at H
       exact absurd H (by simp)
     ·rw [if_neg c6] at H
      have c6b0 : decide (x4_1 < (l0.length : Int)) = false := decide_eq_false c6
      clear c6
      obtain rfl := Option.some.inj H
      go_wp2
      go_ret
      exact ⟨_, zR, by (with_reducible repeat (first | apply Kd.R_alloc | apply Kd.R_drewN | apply Kd.R_drew)); exact HO_3.out, zH⟩
  ·rw [if_neg c3] at H
   exact absurd H (by simp)
 ·rw [if_neg c2] at H
  exact absurd H (by simp)

theorem toByteS_l0 (l : List Int) (hl : l.length ≤ 1048576) : ∀ (d i : Nat) (m : List Int), i + d = l.length → m.length = l.length → m.take i = l.take i → Ev (fun k => laws_toByteS.l0 k l m i) l := by
  intro d
  induction d with
  | zero =>
    intro i m hi hm ht
    refine Ev.step (fun k => by rw [laws_toByteS.l0]) ?_
    rw [List.take_of_length_le (by omega), List.take_of_length_le (by omega)] at ht
    subst ht
    exact evNeg (by omega) (Ev.now _)
  | succ d ih =>
    intro i m hi hm ht
    have h1 : i < l.length := by omega
    refine Ev.step (fun k => by rw [laws_toByteS.l0]) ?_
    refine evPos (by omega) (evPos (by omega) (evPos (by omega) ?_))
    rw [rd_nat h1, w64 (by omega) (by omega), Int.toNat_natCast]
    refine ih (i + 1) _ (by omega) (by simp [hm]) ?_
    rw [List.take_succ_eq_append_getElem (by simp; omega), List.take_succ_eq_append_getElem h1, List.take_set_of_le (Nat.le_refl _), ht]
    simp
theorem toByteS_f (l : List Int) (hl : l.length ≤ 1048576) : Ev (fun k => laws_toByteS.f k l) l := by
  unfold laws_toByteS.f
  refine evPos (by omega) (evPos (by omega) ?_)
  exact toByteS_l0 l hl l.length 0 _ (by omega) (by simp) (by simp)

/-! ### laws_toStream: function 6 -/
def laws_toStream.f (k : Nat) (a0_0 : Int) (a0_1 : Int) (a0_2 : Int) (a0_3 : Int) (l0_4 : List (S98)) (l0_5 : List (List Int)) (l0_6 : List (List (List Int))) (a0_7 : Int) (l0_8 : List (S72)) (l0_9 : List Int) : Option (Int × Int × Int × Int × (List (S74)) × (List (List Int)) × (List (List (List Int))) × Int × (List (S86)) × List Int) := (laws_toFrame.f k a0_0 a0_1 a0_2 a0_3 l0_4).bind fun bt330 => ((laws_toIntSS.f k l0_5).bind fun t337 => ((laws_toCoefs.f k l0_6).bind fun t340 => ((laws_toScanS.f k l0_8).bind fun t343 => ((laws_toByteS.f k l0_9).bind fun t346 => (some (bt330.1, bt330.2.1, bt330.2.2.1, bt330.2.2.2.1, bt330.2.2.2.2, t337, t340, a0_7, t343, t346))))))
theorem laws_toStream.mono : ∀ a0 a1 a2 a3 a4 a5 a6 a7 a8 a9 k, LeO (laws_toStream.f k a0 a1 a2 a3 a4 a5 a6 a7 a8 a9) (laws_toStream.f (k + 1) a0 a1 a2 a3 a4 a5 a6 a7 a8 a9) := by
 intro a0 a1 a2 a3 a4 a5 a6 a7 a8 a9 k
 unfold laws_toStream.f
 repeat' first
   | (with_reducible exact laws_toByteS.mono _ _)
   | (with_reducible exact laws_toCoefs.mono _ _)
   | (with_reducible exact laws_toFrame.mono _ _ _ _ _ _)
   | (with_reducible exact laws_toIntSS.mono _ _)
   | (with_reducible exact laws_toScanS.mono _ _)
   | (with_reducible exact LeO.refl _)
   | (with_reducible exact LeO.none _)
   | (with_reducible refine LeO.ite ?_ ?_)
   | (with_reducible refine LeO.bind ?_ (fun _ => ?_))
   | exact laws_toByteS.mono _ _
   | exact laws_toCoefs.mono _ _
   | exact laws_toFrame.mono _ _ _ _ _ _
   | exact laws_toIntSS.mono _ _
   | exact laws_toScanS.mono _ _
   | exact LeO.none _
   | refine LeO.ite ?_ ?_
   | refine LeO.bind ?_ (fun _ => ?_)
set_option maxHeartbeats 8000000 in
set_option maxRecDepth 100000 in
theorem laws_toStream.calls (k : Nat) (a0_0 : Int) (a0_1 : Int) (a0_2 : Int) (a0_3 : Int) (A0_4 : Option Addr) (c0_4 : Nat) (l0_4 : List (S98)) (A0_5 : Option Addr) (c0_5 : Nat) (l0_5 : List (List Int)) (A0_6 : Option Addr) (c0_6 : Nat) (l0_6 : List (List (List Int))) (a0_7 : Int) (A0_8 : Option Addr) (c0_8 : Nat) (l0_8 : List (S72)) (A0_9 : Option Addr) (c0_9 : Nat) (l0_9 : List Int) (r1 : Int) (r2 : Int) (r3 : Int) (r4 : Int) (r5 : List (S74)) (r6 : List (List Int)) (r7 : List (List (List Int))) (r8 : Int) (r9 : List (S86)) (r10 : List Int) (w : World) (hr0_4 : Kd.C k98 w A0_4 l0_4.length l0_4) (hc0_4 : l0_4.length ≤ c0_4) (hr0_5 : Kd.C (Kd.slice 3 (Kd.int .i64)) w A0_5 l0_5.length l0_5) (hc0_5 : l0_5.length ≤ c0_5) (hr0_6 : Kd.C (Kd.slice 55 (Kd.slice 3 (Kd.int .i64))) w A0_6 l0_6.length l0_6) (hc0_6 : l0_6.length ≤ c0_6) (hr0_8 : Kd.C k72 w A0_8 l0_8.length l0_8) (hc0_8 : l0_8.length ≤ c0_8) (hr0_9 : Kd.C (Kd.int .u8) w A0_9 l0_9.length l0_9) (hc0_9 : l0_9.length ≤ c0_9) (h : laws_toStream.f k a0_0 a0_1 a0_2 a0_3 l0_4 l0_5 l0_6 a0_7 l0_8 l0_9 = some (r1, r2, r3, r4, r5, r6, r7, r8, r9, r10)) :
  Calls Try.prog 6 #[.agg #[.int .i64 a0_0, .int .i64 a0_1, .int .i64 a0_2, .int .i64 a0_3, .slice A0_4 l0_4.length c0_4, .slice A0_5 l0_5.length c0_5, .slice A0_6 l0_6.length c0_6, .int .i64 a0_7, .slice A0_8 l0_8.length c0_8, .slice A0_9 l0_9.length c0_9]] w fun e w' => ∃ v4_ v5_ v6_ v8_ v9_ : Value, e = .returned (.agg #[.int .i64 r1, .int .i64 r2, .int .i64 r3, .int .i64 r4, v4_, v5_, v6_, .int .i64 r8, v8_, v9_]) ∧ Kd.R k74 74 w' w.heap.size (fun _ => True) v4_ r5 ∧ Kd.S (Kd.slice 3 (Kd.int .i64)) 55 w' w.heap.size (fun _ => True) v5_ r6 ∧ Kd.R (Kd.slice 55 (Kd.slice 3 (Kd.int .i64))) 25 w' w.heap.size (fun k_ => some k_ ≠ (v5_ : Value).ownBlock) v6_ r7 ∧ Kd.S k86 86 w' w.heap.size (fun _ => True) v8_ r9 ∧ Kd.R (Kd.int .u8) 5 w' w.heap.size (fun _ => True) v9_ r10 ∧ Below w.heap.size w w' := by
 have hu32 := Try.underlying32
 have hu41 := Try.underlying41
 have hu24 := Try.underlying24
 have hu37 := Try.underlying37
 have hu28 := Try.underlying28
 have hu38 := Try.underlying38
 have HR0_4 := aM hr0_4
 have HC0_4 := aM hc0_4
 clear hr0_4 hc0_4
 have HR0_5 := aM hr0_5
 have HC0_5 := aM hc0_5
 clear hr0_5 hc0_5
 have HR0_6 := aM hr0_6
 have HC0_6 := aM hc0_6
 clear hr0_6 hc0_6
 have HR0_8 := aM hr0_8
 have HC0_8 := aM hc0_8
 clear hr0_8 hc0_8
 have HR0_9 := aM hr0_9
 have HC0_9 := aM hc0_9
 clear hr0_9 hc0_9
 have HB := aM (Below.refl w.heap.size w)
 have H : ((laws_toFrame.f k a0_0 a0_1 a0_2 a0_3 l0_4).bind fun bt330 => ((laws_toIntSS.f k l0_5).bind fun t337 => ((laws_toCoefs.f k l0_6).bind fun t340 => ((laws_toScanS.f k l0_8).bind fun t343 => ((laws_toByteS.f k l0_9).bind fun t346 => (some (bt330.1, bt330.2.1, bt330.2.2.1, bt330.2.2.2.1, bt330.2.2.2.2, t337, t340, a0_7, t343, t346))))))) = some (r1, r2, r3, r4, r5, r6, r7, r8, r9, r10) := h
 clear h
 replace H := oB H
 obtain ⟨⟨t330, t331, t332, t333, t334⟩, A20, H⟩ := H
 replace H : ((laws_toIntSS.f k l0_5).bind fun t337 => ((laws_toCoefs.f k l0_6).bind fun t340 => ((laws_toScanS.f k l0_8).bind fun t343 => ((laws_toByteS.f k l0_9).bind fun t346 => (some (t330, t331, t332, t333, t334, t337, t340, a0_7, t343, t346)))))) = some (r1, r2, r3, r4, r5, r6, r7, r8, r9, r10) := H
 have A2 := aM A20
 clear A20
 obtain ⟨t337, A3, H⟩ := oH H
 obtain ⟨t340, A4, H⟩ := oH H
 obtain ⟨t343, A5, H⟩ := oH H
 obtain ⟨t346, A6, H⟩ := oH H
 simp only [Option.some.injEq, Prod.mk.injEq] at H
 obtain ⟨rfl, rfl, rfl, rfl, rfl, rfl, rfl, rfl, rfl, rfl⟩ := H
 go_enter Try.func6, Try.ntmps6
 go_wp2_with (first | ((with_reducible refine gate_dst (N := 1) rfl ?_); refine box_event ?hg (N := 1) ?hd (cs := #[.int .i64 a0_0, .int .i64 a0_1, .int .i64 a0_2, .int .i64 a0_3, .slice A0_4 l0_4.length c0_4, .slice A0_5 l0_5.length c0_5, .slice A0_6 l0_6.length c0_6, .int .i64 a0_7, .slice A0_8 l0_8.length c0_8, .slice A0_9 l0_9.length c0_9]) (t := 32) ?hr ?_; (case hd => rfl); (case hg => rfl); (case hr => first | (go_simp; done) | (go_simp; rfl)); intro gb327 hg w7 hbox hb; have BK327 := aM hbox; have GW327 := aM (zG hg : w.heap.size ≤ gb327); have GE327 := aM (zG hg : w.heap.size ≤ gb327); replace HB := cH HB hb; clear hb hbox hg) | ((with_reducible refine gate_dst (N := 2) rfl ?_); refine box_event ?hg (N := 2) ?hd (cs := #[.int .i64 0, .int .i64 0, .int .i64 0, .int .i64 0, .slice none 0 0, .slice none 0 0, .slice none 0 0, .int .i64 0, .slice none 0 0, .slice none 0 0]) (t := 41) ?hr ?_; (case hd => rfl); (case hg => rfl); (case hr => first | (go_simp; done) | (go_simp; rfl)); intro gb328 hg w8 hbox hb; have BK328 := aM hbox; have GW328 := aM (zG hg : w.heap.size ≤ gb328); have GE328 := aM (zG hg : w.heap.size ≤ gb328); replace HB := cH HB hb; have NB327_328 := aM ((zL hg BK327)); have NB328_327 := aM ((zM hg BK327)); replace BK327 := cB BK327 hb; clear hb hbox hg) | ((with_reducible refine gate_dst (N := 3) rfl ?_); refine box_event ?hg (N := 3) ?hd (cs := #[.int .i64 0, .int .i64 0, .int .i64 0, .int .i64 0, .slice none 0 0, .slice none 0 0, .slice none 0 0, .int .i64 0, .slice none 0 0, .slice none 0 0]) (t := 41) ?hr ?_; (case hd => rfl); (case hg => rfl); (case hr => first | (go_simp; done) | (go_simp; rfl)); intro gb329 hg w9 hbox hb; have BK329 := aM hbox; have GW329 := aM (zG hg : w.heap.size ≤ gb329); have GE329 := aM (zG hg : w.heap.size ≤ gb329); replace HB := cH HB hb; have NB327_329 := aM ((zL hg BK327)); have NB329_327 := aM ((zM hg BK327)); replace BK327 := cB BK327 hb; have NB328_329 := aM ((zL hg BK328)); have NB329_328 := aM ((zM hg BK328)); replace BK328 := cB BK328 hb; clear hb hbox hg; have hnb10 := NB327_328.out; have hnc10 := NB328_327.out; have hnb11 := NB327_329.out; have hnc11 := NB329_327.out; have hcz12_0 : w9.cell? ⟨gb327, 0, none⟩ = some (.int .i64 a0_0) := (kC BK327.out 0).trans rfl; have hcz12_1 : w9.cell? ⟨gb327, 1, none⟩ = some (.int .i64 a0_1) := (kC BK327.out 1).trans rfl; have hcz12_2 : w9.cell? ⟨gb327, 2, none⟩ = some (.int .i64 a0_2) := (kC BK327.out 2).trans rfl; have hcz12_3 : w9.cell? ⟨gb327, 3, none⟩ = some (.int .i64 a0_3) := (kC BK327.out 3).trans rfl; have hcz12_4 : w9.cell? ⟨gb327, 4, none⟩ = some (.slice A0_4 l0_4.length c0_4) := (kC BK327.out 4).trans rfl; have hcz12_5 : w9.cell? ⟨gb327, 5, none⟩ = some (.slice A0_5 l0_5.length c0_5) := (kC BK327.out 5).trans rfl; have hcz12_6 : w9.cell? ⟨gb327, 6, none⟩ = some (.slice A0_6 l0_6.length c0_6) := (kC BK327.out 6).trans rfl; have hcz12_7 : w9.cell? ⟨gb327, 7, none⟩ = some (.int .i64 a0_7) := (kC BK327.out 7).trans rfl; have hcz12_8 : w9.cell? ⟨gb327, 8, none⟩ = some (.slice A0_8 l0_8.length c0_8) := (kC BK327.out 8).trans rfl; have hcz12_9 : w9.cell? ⟨gb327, 9, none⟩ = some (.slice A0_9 l0_9.length c0_9) := (kC BK327.out 9).trans rfl; have hfz12_0 := blk_frozen BK327.out 0; have hfz12_1 := blk_frozen BK327.out 1; have hfz12_2 := blk_frozen BK327.out 2; have hfz12_3 := blk_frozen BK327.out 3; have hfz12_4 := blk_frozen BK327.out 4; have hfz12_5 := blk_frozen BK327.out 5; have hfz12_6 := blk_frozen BK327.out 6; have hfz12_7 := blk_frozen BK327.out 7; have hfz12_8 := blk_frozen BK327.out 8; have hfz12_9 := blk_frozen BK327.out 9) | (go_at_call 19; (with_reducible refine (laws_toFrame.calls k a0_0 a0_1 a0_2 a0_3 _ _ l0_4 t330 t331 t332 t333 t334 _ ?side1 ?side2 A2.out).mono ?_); (case side1 => exact zC (Kd.C_below HR0_4.out HB.out)); (case side2 => exact HC0_4.out); rintro e w13 ⟨v335, rfl, ho0, hb⟩; have HO336 := aM (Kd.R_lower ho0 (below_size zH)); replace BK327 := cB BK327 hb; replace BK328 := cB BK328 hb; replace BK329 := cB BK329 hb; replace HB := cH HB hb; (try clear hb); (try clear ho0); have hnb14 := NB329_328.out; have hnc14 := NB328_329.out; have hcz15_0 : w13.cell? ⟨gb329, 0, none⟩ = some (.int .i64 0) := (kC BK329.out 0).trans rfl; have hcz15_1 : w13.cell? ⟨gb329, 1, none⟩ = some (.int .i64 0) := (kC BK329.out 1).trans rfl; have hcz15_2 : w13.cell? ⟨gb329, 2, none⟩ = some (.int .i64 0) := (kC BK329.out 2).trans rfl; have hcz15_3 : w13.cell? ⟨gb329, 3, none⟩ = some (.int .i64 0) := (kC BK329.out 3).trans rfl; have hcz15_4 : w13.cell? ⟨gb329, 4, none⟩ = some (.slice none 0 0) := (kC BK329.out 4).trans rfl; have hcz15_5 : w13.cell? ⟨gb329, 5, none⟩ = some (.slice none 0 0) := (kC BK329.out 5).trans rfl; have hcz15_6 : w13.cell? ⟨gb329, 6, none⟩ = some (.slice none 0 0) := (kC BK329.out 6).trans rfl; have hcz15_7 : w13.cell? ⟨gb329, 7, none⟩ = some (.int .i64 0) := (kC BK329.out 7).trans rfl; have hcz15_8 : w13.cell? ⟨gb329, 8, none⟩ = some (.slice none 0 0) := (kC BK329.out 8).trans rfl; have hcz15_9 : w13.cell? ⟨gb329, 9, none⟩ = some (.slice none 0 0) := (kC BK329.out 9).trans rfl; have hfz15_0 := blk_frozen BK329.out 0; have hfz15_1 := blk_frozen BK329.out 1; have hfz15_2 := blk_frozen BK329.out 2; have hfz15_3 := blk_frozen BK329.out 3; have hfz15_4 := blk_frozen BK329.out 4; have hfz15_5 := blk_frozen BK329.out 5; have hfz15_6 := blk_frozen BK329.out 6; have hfz15_7 := blk_frozen BK329.out 7; have hfz15_8 := blk_frozen BK329.out 8; have hfz15_9 := blk_frozen BK329.out 9; obtain ⟨Ao16, co16, eo16⟩ := Kd.R_slice HO336.out; subst eo16; have hcz17_0 : w13.cell? ⟨gb327, 0, none⟩ = some (.int .i64 a0_0) := (kC BK327.out 0).trans rfl; have hcz17_1 : w13.cell? ⟨gb327, 1, none⟩ = some (.int .i64 a0_1) := (kC BK327.out 1).trans rfl; have hcz17_2 : w13.cell? ⟨gb327, 2, none⟩ = some (.int .i64 a0_2) := (kC BK327.out 2).trans rfl; have hcz17_3 : w13.cell? ⟨gb327, 3, none⟩ = some (.int .i64 a0_3) := (kC BK327.out 3).trans rfl; have hcz17_4 : w13.cell? ⟨gb327, 4, none⟩ = some (.slice A0_4 l0_4.length c0_4) := (kC BK327.out 4).trans rfl; have hcz17_5 : w13.cell? ⟨gb327, 5, none⟩ = some (.slice A0_5 l0_5.length c0_5) := (kC BK327.out 5).trans rfl; have hcz17_6 : w13.cell? ⟨gb327, 6, none⟩ = some (.slice A0_6 l0_6.length c0_6) := (kC BK327.out 6).trans rfl; have hcz17_7 : w13.cell? ⟨gb327, 7, none⟩ = some (.int .i64 a0_7) := (kC BK327.out 7).trans rfl; have hcz17_8 : w13.cell? ⟨gb327, 8, none⟩ = some (.slice A0_8 l0_8.length c0_8) := (kC BK327.out 8).trans rfl; have hcz17_9 : w13.cell? ⟨gb327, 9, none⟩ = some (.slice A0_9 l0_9.length c0_9) := (kC BK327.out 9).trans rfl; have hfz17_0 := blk_frozen BK327.out 0; have hfz17_1 := blk_frozen BK327.out 1; have hfz17_2 := blk_frozen BK327.out 2; have hfz17_3 := blk_frozen BK327.out 3; have hfz17_4 := blk_frozen BK327.out 4; have hfz17_5 := blk_frozen BK327.out 5; have hfz17_6 := blk_frozen BK327.out 6; have hfz17_7 := blk_frozen BK327.out 7; have hfz17_8 := blk_frozen BK327.out 8; have hfz17_9 := blk_frozen BK327.out 9) | (go_at_call 20; (with_reducible refine (laws_toIntSS.calls k _ _ l0_5 t337 _ ?side1 ?side2 A3.out).mono ?_); (case side1 => exact Kd.C_below HR0_5.out zH); (case side2 => exact HC0_5.out); rintro e w18 ⟨v338, rfl, ho0, hb⟩; replace HO336 := aM (Kd.R_below (by (with_reducible repeat (first | apply Kd.R_alloc | apply Kd.R_drewN | apply Kd.R_drew)); exact (Kd.R_mono (Kd.R_far (p := ⟨gb329, 4, none⟩) (Kd.R_far (p := ⟨gb329, 3, none⟩) (Kd.R_far (p := ⟨gb329, 2, none⟩) (Kd.R_far (p := ⟨gb329, 1, none⟩) (Kd.R_far (p := ⟨gb329, 0, none⟩) (Kd.R_types HO336.out BK329.out (by decide)) (fun _ hk => hk.2) (.int .i64 t330)) (fun _ hk => hk.2) (.int .i64 t331)) (fun _ hk => hk.2) (.int .i64 t332)) (fun _ hk => hk.2) (.int .i64 t333)) (fun _ hk => hk.2) (.slice Ao16 t334.length co16)) (fun _ h_ => h_.1))) hb); have HO339 := aM (Kd.S_lower ho0 (below_size zH)); replace BK327 := aM (blk_below (g := gb327) (o := .cells #[.int .i64 a0_0, .int .i64 a0_1, .int .i64 a0_2, .int .i64 a0_3, .slice A0_4 l0_4.length c0_4, .slice A0_5 l0_5.length c0_5, .slice A0_6 l0_6.length c0_6, .int .i64 a0_7, .slice A0_8 l0_8.length c0_8, .slice A0_9 l0_9.length c0_9] 32 (0, 0)) (by (with_reducible repeat (first | apply kN | apply kD | apply kA)); refine blk_far ?_ NB327_329.out _; (with_reducible repeat (first | apply kN | apply kD | apply kA)); refine blk_far ?_ NB327_329.out _; (with_reducible repeat (first | apply kN | apply kD | apply kA)); refine blk_far ?_ NB327_329.out _; (with_reducible repeat (first | apply kN | apply kD | apply kA)); refine blk_far ?_ NB327_329.out _; (with_reducible repeat (first | apply kN | apply kD | apply kA)); refine blk_far ?_ NB327_329.out _; (with_reducible repeat (first | apply kN | apply kD | apply kA)); exact BK327.out) hb); replace BK328 := aM (blk_below (g := gb328) (o := .cells #[.int .i64 0, .int .i64 0, .int .i64 0, .int .i64 0, .slice none 0 0, .slice none 0 0, .slice none 0 0, .int .i64 0, .slice none 0 0, .slice none 0 0] 41 (0, 0)) (by (with_reducible repeat (first | apply kN | apply kD | apply kA)); refine blk_far ?_ NB328_329.out _; (with_reducible repeat (first | apply kN | apply kD | apply kA)); refine blk_far ?_ NB328_329.out _; (with_reducible repeat (first | apply kN | apply kD | apply kA)); refine blk_far ?_ NB328_329.out _; (with_reducible repeat (first | apply kN | apply kD | apply kA)); refine blk_far ?_ NB328_329.out _; (with_reducible repeat (first | apply kN | apply kD | apply kA)); refine blk_far ?_ NB328_329.out _; (with_reducible repeat (first | apply kN | apply kD | apply kA)); exact BK328.out) hb); replace BK329 := aM (blk_below (g := gb329) (o := .cells #[.int .i64 t330, .int .i64 t331, .int .i64 t332, .int .i64 t333, .slice Ao16 t334.length co16, .slice none 0 0, .slice none 0 0, .int .i64 0, .slice none 0 0, .slice none 0 0] 41 (0, 0)) (by (with_reducible repeat (first | apply kN | apply kD | apply kA)); refine blk_put (cs := #[.int .i64 t330, .int .i64 t331, .int .i64 t332, .int .i64 t333, .slice none 0 0, .slice none 0 0, .slice none 0 0, .int .i64 0, .slice none 0 0, .slice none 0 0]) ?_ 4 _ rfl; (with_reducible repeat (first | apply kN | apply kD | apply kA)); refine blk_put (cs := #[.int .i64 t330, .int .i64 t331, .int .i64 t332, .int .i64 0, .slice none 0 0, .slice none 0 0, .slice none 0 0, .int .i64 0, .slice none 0 0, .slice none 0 0]) ?_ 3 _ rfl; (with_reducible repeat (first | apply kN | apply kD | apply kA)); refine blk_put (cs := #[.int .i64 t330, .int .i64 t331, .int .i64 0, .int .i64 0, .slice none 0 0, .slice none 0 0, .slice none 0 0, .int .i64 0, .slice none 0 0, .slice none 0 0]) ?_ 2 _ rfl; (with_reducible repeat (first | apply kN | apply kD | apply kA)); refine blk_put (cs := #[.int .i64 t330, .int .i64 0, .int .i64 0, .int .i64 0, .slice none 0 0, .slice none 0 0, .slice none 0 0, .int .i64 0, .slice none 0 0, .slice none 0 0]) ?_ 1 _ rfl; (with_reducible repeat (first | apply kN | apply kD | apply kA)); refine blk_put (cs := #[.int .i64 0, .int .i64 0, .int .i64 0, .int .i64 0, .slice none 0 0, .slice none 0 0, .slice none 0 0, .int .i64 0, .slice none 0 0, .slice none 0 0]) ?_ 0 _ rfl; (with_reducible repeat (first | apply kN | apply kD | apply kA)); exact BK329.out) hb); replace HB := cH HB hb; (try clear hb); (try clear hk); (try clear ho0); obtain ⟨Ao19, co19, eo19⟩ := Kd.S_slice HO339.out; subst eo19; have hcz20_0 : w18.cell? ⟨gb329, 0, none⟩ = some (.int .i64 t330) := (kC BK329.out 0).trans rfl; have hcz20_1 : w18.cell? ⟨gb329, 1, none⟩ = some (.int .i64 t331) := (kC BK329.out 1).trans rfl; have hcz20_2 : w18.cell? ⟨gb329, 2, none⟩ = some (.int .i64 t332) := (kC BK329.out 2).trans rfl; have hcz20_3 : w18.cell? ⟨gb329, 3, none⟩ = some (.int .i64 t333) := (kC BK329.out 3).trans rfl; have hcz20_4 : w18.cell? ⟨gb329, 4, none⟩ = some (.slice Ao16 t334.length co16) := (kC BK329.out 4).trans rfl; have hcz20_5 : w18.cell? ⟨gb329, 5, none⟩ = some (.slice none 0 0) := (kC BK329.out 5).trans rfl; have hcz20_6 : w18.cell? ⟨gb329, 6, none⟩ = some (.slice none 0 0) := (kC BK329.out 6).trans rfl; have hcz20_7 : w18.cell? ⟨gb329, 7, none⟩ = some (.int .i64 0) := (kC BK329.out 7).trans rfl; have hcz20_8 : w18.cell? ⟨gb329, 8, none⟩ = some (.slice none 0 0) := (kC BK329.out 8).trans rfl; have hcz20_9 : w18.cell? ⟨gb329, 9, none⟩ = some (.slice none 0 0) := (kC BK329.out 9).trans rfl; have hfz20_0 := blk_frozen BK329.out 0; have hfz20_1 := blk_frozen BK329.out 1; have hfz20_2 := blk_frozen BK329.out 2; have hfz20_3 := blk_frozen BK329.out 3; have hfz20_4 := blk_frozen BK329.out 4; have hfz20_5 := blk_frozen BK329.out 5; have hfz20_6 := blk_frozen BK329.out 6; have hfz20_7 := blk_frozen BK329.out 7; have hfz20_8 := blk_frozen BK329.out 8; have hfz20_9 := blk_frozen BK329.out 9; have hcz21_0 : w18.cell? ⟨gb327, 0, none⟩ = some (.int .i64 a0_0) := (kC BK327.out 0).trans rfl; have hcz21_1 : w18.cell? ⟨gb327, 1, none⟩ = some (.int .i64 a0_1) := (kC BK327.out 1).trans rfl; have hcz21_2 : w18.cell? ⟨gb327, 2, none⟩ = some (.int .i64 a0_2) := (kC BK327.out 2).trans rfl; have hcz21_3 : w18.cell? ⟨gb327, 3, none⟩ = some (.int .i64 a0_3) := (kC BK327.out 3).trans rfl; have hcz21_4 : w18.cell? ⟨gb327, 4, none⟩ = some (.slice A0_4 l0_4.length c0_4) := (kC BK327.out 4).trans rfl; have hcz21_5 : w18.cell? ⟨gb327, 5, none⟩ = some (.slice A0_5 l0_5.length c0_5) := (kC BK327.out 5).trans rfl; have hcz21_6 : w18.cell? ⟨gb327, 6, none⟩ = some (.slice A0_6 l0_6.length c0_6) := (kC BK327.out 6).trans rfl; have hcz21_7 : w18.cell? ⟨gb327, 7, none⟩ = some (.int .i64 a0_7) := (kC BK327.out 7).trans rfl; have hcz21_8 : w18.cell? ⟨gb327, 8, none⟩ = some (.slice A0_8 l0_8.length c0_8) := (kC BK327.out 8).trans rfl; have hcz21_9 : w18.cell? ⟨gb327, 9, none⟩ = some (.slice A0_9 l0_9.length c0_9) := (kC BK327.out 9).trans rfl; have hfz21_0 := blk_frozen BK327.out 0; have hfz21_1 := blk_frozen BK327.out 1; have hfz21_2 := blk_frozen BK327.out 2; have hfz21_3 := blk_frozen BK327.out 3; have hfz21_4 := blk_frozen BK327.out 4; have hfz21_5 := blk_frozen BK327.out 5; have hfz21_6 := blk_frozen BK327.out 6; have hfz21_7 := blk_frozen BK327.out 7; have hfz21_8 := blk_frozen BK327.out 8; have hfz21_9 := blk_frozen BK327.out 9) | (go_at_call 21; (with_reducible refine (laws_toCoefs.calls k _ _ l0_6 t340 _ ?side1 ?side2 A4.out).mono ?_); (case side1 => exact Kd.C_below HR0_6.out zH); (case side2 => exact HC0_6.out); rintro e w22 ⟨v341, rfl, ho0, hb⟩; replace HO336 := aM (Kd.R_below (by (with_reducible repeat (first | apply Kd.R_alloc | apply Kd.R_drewN | apply Kd.R_drew)); exact (Kd.R_mono (Kd.R_far (p := ⟨gb329, 5, none⟩) (Kd.R_types HO336.out BK329.out (by decide)) (fun _ hk => hk.2) (.slice Ao19 t337.length co19)) (fun _ h_ => h_.1))) hb); have HO342 := aM (Kd.R_lower (Kd.R_new' ho0 (Kd.S_lt (by (with_reducible repeat (first | apply Kd.S_alloc | apply Kd.S_drewN | apply Kd.S_drew)); exact (Kd.S_mono (Kd.S_far (p := ⟨gb329, 5, none⟩) (Kd.S_types HO339.out BK329.out (by decide)) (fun _ hk => hk.2) (.slice Ao19 t337.length co19)) (fun _ h_ => h_.1))))) (below_size zH)); replace HO339 := aM (Kd.S_below (by (with_reducible repeat (first | apply Kd.S_alloc | apply Kd.S_drewN | apply Kd.S_drew)); exact (Kd.S_mono (Kd.S_far (p := ⟨gb329, 5, none⟩) (Kd.S_types HO339.out BK329.out (by decide)) (fun _ hk => hk.2) (.slice Ao19 t337.length co19)) (fun _ h_ => h_.1))) hb); replace BK327 := aM (blk_below (g := gb327) (o := .cells #[.int .i64 a0_0, .int .i64 a0_1, .int .i64 a0_2, .int .i64 a0_3, .slice A0_4 l0_4.length c0_4, .slice A0_5 l0_5.length c0_5, .slice A0_6 l0_6.length c0_6, .int .i64 a0_7, .slice A0_8 l0_8.length c0_8, .slice A0_9 l0_9.length c0_9] 32 (0, 0)) (by (with_reducible repeat (first | apply kN | apply kD | apply kA)); refine blk_far ?_ NB327_329.out _; (with_reducible repeat (first | apply kN | apply kD | apply kA)); exact BK327.out) hb); replace BK328 := aM (blk_below (g := gb328) (o := .cells #[.int .i64 0, .int .i64 0, .int .i64 0, .int .i64 0, .slice none 0 0, .slice none 0 0, .slice none 0 0, .int .i64 0, .slice none 0 0, .slice none 0 0] 41 (0, 0)) (by (with_reducible repeat (first | apply kN | apply kD | apply kA)); refine blk_far ?_ NB328_329.out _; (with_reducible repeat (first | apply kN | apply kD | apply kA)); exact BK328.out) hb); replace BK329 := aM (blk_below (g := gb329) (o := .cells #[.int .i64 t330, .int .i64 t331, .int .i64 t332, .int .i64 t333, .slice Ao16 t334.length co16, .slice Ao19 t337.length co19, .slice none 0 0, .int .i64 0, .slice none 0 0, .slice none 0 0] 41 (0, 0)) (by (with_reducible repeat (first | apply kN | apply kD | apply kA)); refine blk_put (cs := #[.int .i64 t330, .int .i64 t331, .int .i64 t332, .int .i64 t333, .slice Ao16 t334.length co16, .slice none 0 0, .slice none 0 0, .int .i64 0, .slice none 0 0, .slice none 0 0]) ?_ 5 _ rfl; (with_reducible repeat (first | apply kN | apply kD | apply kA)); exact BK329.out) hb); replace HB := cH HB hb; (try clear hb); (try clear hk); (try clear ho0); obtain ⟨Ao23, co23, eo23⟩ := Kd.R_slice HO342.out; subst eo23; have hcz24_0 : w22.cell? ⟨gb329, 0, none⟩ = some (.int .i64 t330) := (kC BK329.out 0).trans rfl; have hcz24_1 : w22.cell? ⟨gb329, 1, none⟩ = some (.int .i64 t331) := (kC BK329.out 1).trans rfl; have hcz24_2 : w22.cell? ⟨gb329, 2, none⟩ = some (.int .i64 t332) := (kC BK329.out 2).trans rfl; have hcz24_3 : w22.cell? ⟨gb329, 3, none⟩ = some (.int .i64 t333) := (kC BK329.out 3).trans rfl; have hcz24_4 : w22.cell? ⟨gb329, 4, none⟩ = some (.slice Ao16 t334.length co16) := (kC BK329.out 4).trans rfl; have hcz24_5 : w22.cell? ⟨gb329, 5, none⟩ = some (.slice Ao19 t337.length co19) := (kC BK329.out 5).trans rfl; have hcz24_6 : w22.cell? ⟨gb329, 6, none⟩ = some (.slice none 0 0) := (kC BK329.out 6).trans rfl; have hcz24_7 : w22.cell? ⟨gb329, 7, none⟩ = some (.int .i64 0) := (kC BK329.out 7).trans rfl; have hcz24_8 : w22.cell? ⟨gb329, 8, none⟩ = some (.slice none 0 0) := (kC BK329.out 8).trans rfl; have hcz24_9 : w22.cell? ⟨gb329, 9, none⟩ = some (.slice none 0 0) := (kC BK329.out 9).trans rfl; have hfz24_0 := blk_frozen BK329.out 0; have hfz24_1 := blk_frozen BK329.out 1; have hfz24_2 := blk_frozen BK329.out 2; have hfz24_3 := blk_frozen BK329.out 3; have hfz24_4 := blk_frozen BK329.out 4; have hfz24_5 := blk_frozen BK329.out 5; have hfz24_6 := blk_frozen BK329.out 6; have hfz24_7 := blk_frozen BK329.out 7; have hfz24_8 := blk_frozen BK329.out 8; have hfz24_9 := blk_frozen BK329.out 9; have hcz25_0 : w22.cell? ⟨gb327, 0, none⟩ = some (.int .i64 a0_0) := (kC BK327.out 0).trans rfl; have hcz25_1 : w22.cell? ⟨gb327, 1, none⟩ = some (.int .i64 a0_1) := (kC BK327.out 1).trans rfl; have hcz25_2 : w22.cell? ⟨gb327, 2, none⟩ = some (.int .i64 a0_2) := (kC BK327.out 2).trans rfl; have hcz25_3 : w22.cell? ⟨gb327, 3, none⟩ = some (.int .i64 a0_3) := (kC BK327.out 3).trans rfl; have hcz25_4 : w22.cell? ⟨gb327, 4, none⟩ = some (.slice A0_4 l0_4.length c0_4) := (kC BK327.out 4).trans rfl; have hcz25_5 : w22.cell? ⟨gb327, 5, none⟩ = some (.slice A0_5 l0_5.length c0_5) := (kC BK327.out 5).trans rfl; have hcz25_6 : w22.cell? ⟨gb327, 6, none⟩ = some (.slice A0_6 l0_6.length c0_6) := (kC BK327.out 6).trans rfl; have hcz25_7 : w22.cell? ⟨gb327, 7, none⟩ = some (.int .i64 a0_7) := (kC BK327.out 7).trans rfl; have hcz25_8 : w22.cell? ⟨gb327, 8, none⟩ = some (.slice A0_8 l0_8.length c0_8) := (kC BK327.out 8).trans rfl; have hcz25_9 : w22.cell? ⟨gb327, 9, none⟩ = some (.slice A0_9 l0_9.length c0_9) := (kC BK327.out 9).trans rfl; have hfz25_0 := blk_frozen BK327.out 0; have hfz25_1 := blk_frozen BK327.out 1; have hfz25_2 := blk_frozen BK327.out 2; have hfz25_3 := blk_frozen BK327.out 3; have hfz25_4 := blk_frozen BK327.out 4; have hfz25_5 := blk_frozen BK327.out 5; have hfz25_6 := blk_frozen BK327.out 6; have hfz25_7 := blk_frozen BK327.out 7; have hfz25_8 := blk_frozen BK327.out 8; have hfz25_9 := blk_frozen BK327.out 9) | (go_at_call 22; (with_reducible refine (laws_toScanS.calls k _ _ l0_8 t343 _ ?side1 ?side2 A5.out).mono ?_); (case side1 => exact Kd.C_below HR0_8.out zH); (case side2 => exact HC0_8.out); rintro e w26 ⟨v344, rfl, ho0, hb⟩; replace HO336 := aM (Kd.R_below (by (with_reducible repeat (first | apply Kd.R_alloc | apply Kd.R_drewN | apply Kd.R_drew)); exact (Kd.R_mono (Kd.R_far (p := ⟨gb329, 7, none⟩) (Kd.R_far (p := ⟨gb329, 6, none⟩) (Kd.R_types HO336.out BK329.out (by decide)) (fun _ hk => hk.2) (.slice Ao23 t340.length co23)) (fun _ hk => hk.2) (.int .i64 a0_7)) (fun _ h_ => h_.1))) hb); replace HO339 := aM (Kd.S_below (by (with_reducible repeat (first | apply Kd.S_alloc | apply Kd.S_drewN | apply Kd.S_drew)); exact (Kd.S_mono (Kd.S_far (p := ⟨gb329, 7, none⟩) (Kd.S_far (p := ⟨gb329, 6, none⟩) (Kd.S_types HO339.out BK329.out (by decide)) (fun _ hk => hk.2) (.slice Ao23 t340.length co23)) (fun _ hk => hk.2) (.int .i64 a0_7)) (fun _ h_ => h_.1))) hb); replace HO342 := aM (Kd.R_below (by (with_reducible repeat (first | apply Kd.R_alloc | apply Kd.R_drewN | apply Kd.R_drew)); exact (Kd.R_mono (Kd.R_far (p := ⟨gb329, 7, none⟩) (Kd.R_far (p := ⟨gb329, 6, none⟩) (Kd.R_types HO342.out BK329.out (by decide)) (fun _ hk => hk.2) (.slice Ao23 t340.length co23)) (fun _ hk => hk.2) (.int .i64 a0_7)) (fun _ h_ => h_.1))) hb); have HO345 := aM (Kd.S_lower ho0 (below_size zH)); replace BK327 := aM (blk_below (g := gb327) (o := .cells #[.int .i64 a0_0, .int .i64 a0_1, .int .i64 a0_2, .int .i64 a0_3, .slice A0_4 l0_4.length c0_4, .slice A0_5 l0_5.length c0_5, .slice A0_6 l0_6.length c0_6, .int .i64 a0_7, .slice A0_8 l0_8.length c0_8, .slice A0_9 l0_9.length c0_9] 32 (0, 0)) (by (with_reducible repeat (first | apply kN | apply kD | apply kA)); refine blk_far ?_ NB327_329.out _; (with_reducible repeat (first | apply kN | apply kD | apply kA)); refine blk_far ?_ NB327_329.out _; (with_reducible repeat (first | apply kN | apply kD | apply kA)); exact BK327.out) hb); replace BK328 := aM (blk_below (g := gb328) (o := .cells #[.int .i64 0, .int .i64 0, .int .i64 0, .int .i64 0, .slice none 0 0, .slice none 0 0, .slice none 0 0, .int .i64 0, .slice none 0 0, .slice none 0 0] 41 (0, 0)) (by (with_reducible repeat (first | apply kN | apply kD | apply kA)); refine blk_far ?_ NB328_329.out _; (with_reducible repeat (first | apply kN | apply kD | apply kA)); refine blk_far ?_ NB328_329.out _; (with_reducible repeat (first | apply kN | apply kD | apply kA)); exact BK328.out) hb); replace BK329 := aM (blk_below (g := gb329) (o := .cells #[.int .i64 t330, .int .i64 t331, .int .i64 t332, .int .i64 t333, .slice Ao16 t334.length co16, .slice Ao19 t337.length co19, .slice Ao23 t340.length co23, .int .i64 a0_7, .slice none 0 0, .slice none 0 0] 41 (0, 0)) (by (with_reducible repeat (first | apply kN | apply kD | apply kA)); refine blk_put (cs := #[.int .i64 t330, .int .i64 t331, .int .i64 t332, .int .i64 t333, .slice Ao16 t334.length co16, .slice Ao19 t337.length co19, .slice Ao23 t340.length co23, .int .i64 0, .slice none 0 0, .slice none 0 0]) ?_ 7 _ rfl; (with_reducible repeat (first | apply kN | apply kD | apply kA)); refine blk_put (cs := #[.int .i64 t330, .int .i64 t331, .int .i64 t332, .int .i64 t333, .slice Ao16 t334.length co16, .slice Ao19 t337.length co19, .slice none 0 0, .int .i64 0, .slice none 0 0, .slice none 0 0]) ?_ 6 _ rfl; (with_reducible repeat (first | apply kN | apply kD | apply kA)); exact BK329.out) hb); replace HB := cH HB hb; (try clear hb); (try clear hk); (try clear ho0); obtain ⟨Ao27, co27, eo27⟩ := Kd.S_slice HO345.out; subst eo27; have hcz28_0 : w26.cell? ⟨gb329, 0, none⟩ = some (.int .i64 t330) := (kC BK329.out 0).trans rfl; have hcz28_1 : w26.cell? ⟨gb329, 1, none⟩ = some (.int .i64 t331) := (kC BK329.out 1).trans rfl; have hcz28_2 : w26.cell? ⟨gb329, 2, none⟩ = some (.int .i64 t332) := (kC BK329.out 2).trans rfl; have hcz28_3 : w26.cell? ⟨gb329, 3, none⟩ = some (.int .i64 t333) := (kC BK329.out 3).trans rfl; have hcz28_4 : w26.cell? ⟨gb329, 4, none⟩ = some (.slice Ao16 t334.length co16) := (kC BK329.out 4).trans rfl; have hcz28_5 : w26.cell? ⟨gb329, 5, none⟩ = some (.slice Ao19 t337.length co19) := (kC BK329.out 5).trans rfl; have hcz28_6 : w26.cell? ⟨gb329, 6, none⟩ = some (.slice Ao23 t340.length co23) := (kC BK329.out 6).trans rfl; have hcz28_7 : w26.cell? ⟨gb329, 7, none⟩ = some (.int .i64 a0_7) := (kC BK329.out 7).trans rfl; have hcz28_8 : w26.cell? ⟨gb329, 8, none⟩ = some (.slice none 0 0) := (kC BK329.out 8).trans rfl; have hcz28_9 : w26.cell? ⟨gb329, 9, none⟩ = some (.slice none 0 0) := (kC BK329.out 9).trans rfl; have hfz28_0 := blk_frozen BK329.out 0; have hfz28_1 := blk_frozen BK329.out 1; have hfz28_2 := blk_frozen BK329.out 2; have hfz28_3 := blk_frozen BK329.out 3; have hfz28_4 := blk_frozen BK329.out 4; have hfz28_5 := blk_frozen BK329.out 5; have hfz28_6 := blk_frozen BK329.out 6; have hfz28_7 := blk_frozen BK329.out 7; have hfz28_8 := blk_frozen BK329.out 8; have hfz28_9 := blk_frozen BK329.out 9; have hcz29_0 : w26.cell? ⟨gb327, 0, none⟩ = some (.int .i64 a0_0) := (kC BK327.out 0).trans rfl; have hcz29_1 : w26.cell? ⟨gb327, 1, none⟩ = some (.int .i64 a0_1) := (kC BK327.out 1).trans rfl; have hcz29_2 : w26.cell? ⟨gb327, 2, none⟩ = some (.int .i64 a0_2) := (kC BK327.out 2).trans rfl; have hcz29_3 : w26.cell? ⟨gb327, 3, none⟩ = some (.int .i64 a0_3) := (kC BK327.out 3).trans rfl; have hcz29_4 : w26.cell? ⟨gb327, 4, none⟩ = some (.slice A0_4 l0_4.length c0_4) := (kC BK327.out 4).trans rfl; have hcz29_5 : w26.cell? ⟨gb327, 5, none⟩ = some (.slice A0_5 l0_5.length c0_5) := (kC BK327.out 5).trans rfl; have hcz29_6 : w26.cell? ⟨gb327, 6, none⟩ = some (.slice A0_6 l0_6.length c0_6) := (kC BK327.out 6).trans rfl; have hcz29_7 : w26.cell? ⟨gb327, 7, none⟩ = some (.int .i64 a0_7) := (kC BK327.out 7).trans rfl; have hcz29_8 : w26.cell? ⟨gb327, 8, none⟩ = some (.slice A0_8 l0_8.length c0_8) := (kC BK327.out 8).trans rfl; have hcz29_9 : w26.cell? ⟨gb327, 9, none⟩ = some (.slice A0_9 l0_9.length c0_9) := (kC BK327.out 9).trans rfl; have hfz29_0 := blk_frozen BK327.out 0; have hfz29_1 := blk_frozen BK327.out 1; have hfz29_2 := blk_frozen BK327.out 2; have hfz29_3 := blk_frozen BK327.out 3; have hfz29_4 := blk_frozen BK327.out 4; have hfz29_5 := blk_frozen BK327.out 5; have hfz29_6 := blk_frozen BK327.out 6; have hfz29_7 := blk_frozen BK327.out 7; have hfz29_8 := blk_frozen BK327.out 8; have hfz29_9 := blk_frozen BK327.out 9) | (go_at_call 23; (with_reducible refine (laws_toByteS.calls k _ _ l0_9 t346 _ ?side1 ?side2 A6.out).mono ?_); (case side1 => exact Kd.C_below HR0_9.out zH); (case side2 => exact HC0_9.out); rintro e w30 ⟨v347, rfl, ho0, hb⟩; replace HO336 := aM (Kd.R_below (by (with_reducible repeat (first | apply Kd.R_alloc | apply Kd.R_drewN | apply Kd.R_drew)); exact (Kd.R_mono (Kd.R_far (p := ⟨gb329, 8, none⟩) (Kd.R_types HO336.out BK329.out (by decide)) (fun _ hk => hk.2) (.slice Ao27 t343.length co27)) (fun _ h_ => h_.1))) hb); replace HO339 := aM (Kd.S_below (by (with_reducible repeat (first | apply Kd.S_alloc | apply Kd.S_drewN | apply Kd.S_drew)); exact (Kd.S_mono (Kd.S_far (p := ⟨gb329, 8, none⟩) (Kd.S_types HO339.out BK329.out (by decide)) (fun _ hk => hk.2) (.slice Ao27 t343.length co27)) (fun _ h_ => h_.1))) hb); replace HO342 := aM (Kd.R_below (by (with_reducible repeat (first | apply Kd.R_alloc | apply Kd.R_drewN | apply Kd.R_drew)); exact (Kd.R_mono (Kd.R_far (p := ⟨gb329, 8, none⟩) (Kd.R_types HO342.out BK329.out (by decide)) (fun _ hk => hk.2) (.slice Ao27 t343.length co27)) (fun _ h_ => h_.1))) hb); replace HO345 := aM (Kd.S_below (by (with_reducible repeat (first | apply Kd.S_alloc | apply Kd.S_drewN | apply Kd.S_drew)); exact (Kd.S_mono (Kd.S_far (p := ⟨gb329, 8, none⟩) (Kd.S_types HO345.out BK329.out (by decide)) (fun _ hk => hk.2) (.slice Ao27 t343.length co27)) (fun _ h_ => h_.1))) hb); have HO348 := aM (Kd.R_lower ho0 (below_size zH)); replace BK327 := aM (blk_below (g := gb327) (o := .cells #[.int .i64 a0_0, .int .i64 a0_1, .int .i64 a0_2, .int .i64 a0_3, .slice A0_4 l0_4.length c0_4, .slice A0_5 l0_5.length c0_5, .slice A0_6 l0_6.length c0_6, .int .i64 a0_7, .slice A0_8 l0_8.length c0_8, .slice A0_9 l0_9.length c0_9] 32 (0, 0)) (by (with_reducible repeat (first | apply kN | apply kD | apply kA)); refine blk_far ?_ NB327_329.out _; (with_reducible repeat (first | apply kN | apply kD | apply kA)); exact BK327.out) hb); replace BK328 := aM (blk_below (g := gb328) (o := .cells #[.int .i64 0, .int .i64 0, .int .i64 0, .int .i64 0, .slice none 0 0, .slice none 0 0, .slice none 0 0, .int .i64 0, .slice none 0 0, .slice none 0 0] 41 (0, 0)) (by (with_reducible repeat (first | apply kN | apply kD | apply kA)); refine blk_far ?_ NB328_329.out _; (with_reducible repeat (first | apply kN | apply kD | apply kA)); exact BK328.out) hb); replace BK329 := aM (blk_below (g := gb329) (o := .cells #[.int .i64 t330, .int .i64 t331, .int .i64 t332, .int .i64 t333, .slice Ao16 t334.length co16, .slice Ao19 t337.length co19, .slice Ao23 t340.length co23, .int .i64 a0_7, .slice Ao27 t343.length co27, .slice none 0 0] 41 (0, 0)) (by (with_reducible repeat (first | apply kN | apply kD | apply kA)); refine blk_put (cs := #[.int .i64 t330, .int .i64 t331, .int .i64 t332, .int .i64 t333, .slice Ao16 t334.length co16, .slice Ao19 t337.length co19, .slice Ao23 t340.length co23, .int .i64 a0_7, .slice none 0 0, .slice none 0 0]) ?_ 8 _ rfl; (with_reducible repeat (first | apply kN | apply kD | apply kA)); exact BK329.out) hb); replace HB := cH HB hb; (try clear hb); (try clear hk); (try clear ho0); obtain ⟨Ao31, co31, eo31⟩ := Kd.R_slice HO348.out; subst eo31; have hcz32_0 : w30.cell? ⟨gb329, 0, none⟩ = some (.int .i64 t330) := (kC BK329.out 0).trans rfl; have hcz32_1 : w30.cell? ⟨gb329, 1, none⟩ = some (.int .i64 t331) := (kC BK329.out 1).trans rfl; have hcz32_2 : w30.cell? ⟨gb329, 2, none⟩ = some (.int .i64 t332) := (kC BK329.out 2).trans rfl; have hcz32_3 : w30.cell? ⟨gb329, 3, none⟩ = some (.int .i64 t333) := (kC BK329.out 3).trans rfl; have hcz32_4 : w30.cell? ⟨gb329, 4, none⟩ = some (.slice Ao16 t334.length co16) := (kC BK329.out 4).trans rfl; have hcz32_5 : w30.cell? ⟨gb329, 5, none⟩ = some (.slice Ao19 t337.length co19) := (kC BK329.out 5).trans rfl; have hcz32_6 : w30.cell? ⟨gb329, 6, none⟩ = some (.slice Ao23 t340.length co23) := (kC BK329.out 6).trans rfl; have hcz32_7 : w30.cell? ⟨gb329, 7, none⟩ = some (.int .i64 a0_7) := (kC BK329.out 7).trans rfl; have hcz32_8 : w30.cell? ⟨gb329, 8, none⟩ = some (.slice Ao27 t343.length co27) := (kC BK329.out 8).trans rfl; have hcz32_9 : w30.cell? ⟨gb329, 9, none⟩ = some (.slice none 0 0) := (kC BK329.out 9).trans rfl; have hfz32_0 := blk_frozen BK329.out 0; have hfz32_1 := blk_frozen BK329.out 1; have hfz32_2 := blk_frozen BK329.out 2; have hfz32_3 := blk_frozen BK329.out 3; have hfz32_4 := blk_frozen BK329.out 4; have hfz32_5 := blk_frozen BK329.out 5; have hfz32_6 := blk_frozen BK329.out 6; have hfz32_7 := blk_frozen BK329.out 7; have hfz32_8 := blk_frozen BK329.out 8; have hfz32_9 := blk_frozen BK329.out 9; have hcz33_0 : w30.cell? ⟨gb328, 0, none⟩ = some (.int .i64 0) := (kC BK328.out 0).trans rfl; have hcz33_1 : w30.cell? ⟨gb328, 1, none⟩ = some (.int .i64 0) := (kC BK328.out 1).trans rfl; have hcz33_2 : w30.cell? ⟨gb328, 2, none⟩ = some (.int .i64 0) := (kC BK328.out 2).trans rfl; have hcz33_3 : w30.cell? ⟨gb328, 3, none⟩ = some (.int .i64 0) := (kC BK328.out 3).trans rfl; have hcz33_4 : w30.cell? ⟨gb328, 4, none⟩ = some (.slice none 0 0) := (kC BK328.out 4).trans rfl; have hcz33_5 : w30.cell? ⟨gb328, 5, none⟩ = some (.slice none 0 0) := (kC BK328.out 5).trans rfl; have hcz33_6 : w30.cell? ⟨gb328, 6, none⟩ = some (.slice none 0 0) := (kC BK328.out 6).trans rfl; have hcz33_7 : w30.cell? ⟨gb328, 7, none⟩ = some (.int .i64 0) := (kC BK328.out 7).trans rfl; have hcz33_8 : w30.cell? ⟨gb328, 8, none⟩ = some (.slice none 0 0) := (kC BK328.out 8).trans rfl; have hcz33_9 : w30.cell? ⟨gb328, 9, none⟩ = some (.slice none 0 0) := (kC BK328.out 9).trans rfl; have hfz33_0 := blk_frozen BK328.out 0; have hfz33_1 := blk_frozen BK328.out 1; have hfz33_2 := blk_frozen BK328.out 2; have hfz33_3 := blk_frozen BK328.out 3; have hfz33_4 := blk_frozen BK328.out 4; have hfz33_5 := blk_frozen BK328.out 5; have hfz33_6 := blk_frozen BK328.out 6; have hfz33_7 := blk_frozen BK328.out 7; have hfz33_8 := blk_frozen BK328.out 8; have hfz33_9 := blk_frozen BK328.out 9))
 refine bodyPost_ret (results_cell_row rfl _ _ gb328 41 #[.int .i64 t330, .int .i64 t331, .int .i64 t332, .int .i64 t333, .slice Ao16 t334.length co16, .slice Ao19 t337.length co19, .slice Ao23 t340.length co23, .int .i64 a0_7, .slice Ao27 t343.length co27, .slice Ao31 t346.length co31] (0, 0) _ rfl (by (with_reducible repeat (first | apply kN | apply kD | apply kA)); refine blk_put (cs := #[.int .i64 t330, .int .i64 t331, .int .i64 t332, .int .i64 t333, .slice Ao16 t334.length co16, .slice Ao19 t337.length co19, .slice Ao23 t340.length co23, .int .i64 a0_7, .slice Ao27 t343.length co27, .slice none 0 0]) ?_ 9 _ rfl; (with_reducible repeat (first | apply kN | apply kD | apply kA)); refine blk_put (cs := #[.int .i64 t330, .int .i64 t331, .int .i64 t332, .int .i64 t333, .slice Ao16 t334.length co16, .slice Ao19 t337.length co19, .slice Ao23 t340.length co23, .int .i64 a0_7, .slice none 0 0, .slice none 0 0]) ?_ 8 _ rfl; (with_reducible repeat (first | apply kN | apply kD | apply kA)); refine blk_put (cs := #[.int .i64 t330, .int .i64 t331, .int .i64 t332, .int .i64 t333, .slice Ao16 t334.length co16, .slice Ao19 t337.length co19, .slice Ao23 t340.length co23, .int .i64 0, .slice none 0 0, .slice none 0 0]) ?_ 7 _ rfl; (with_reducible repeat (first | apply kN | apply kD | apply kA)); refine blk_put (cs := #[.int .i64 t330, .int .i64 t331, .int .i64 t332, .int .i64 t333, .slice Ao16 t334.length co16, .slice Ao19 t337.length co19, .slice none 0 0, .int .i64 0, .slice none 0 0, .slice none 0 0]) ?_ 6 _ rfl; (with_reducible repeat (first | apply kN | apply kD | apply kA)); refine blk_put (cs := #[.int .i64 t330, .int .i64 t331, .int .i64 t332, .int .i64 t333, .slice Ao16 t334.length co16, .slice none 0 0, .slice none 0 0, .int .i64 0, .slice none 0 0, .slice none 0 0]) ?_ 5 _ rfl; (with_reducible repeat (first | apply kN | apply kD | apply kA)); refine blk_put (cs := #[.int .i64 t330, .int .i64 t331, .int .i64 t332, .int .i64 t333, .slice none 0 0, .slice none 0 0, .slice none 0 0, .int .i64 0, .slice none 0 0, .slice none 0 0]) ?_ 4 _ rfl; (with_reducible repeat (first | apply kN | apply kD | apply kA)); refine blk_put (cs := #[.int .i64 t330, .int .i64 t331, .int .i64 t332, .int .i64 0, .slice none 0 0, .slice none 0 0, .slice none 0 0, .int .i64 0, .slice none 0 0, .slice none 0 0]) ?_ 3 _ rfl; (with_reducible repeat (first | apply kN | apply kD | apply kA)); refine blk_put (cs := #[.int .i64 t330, .int .i64 t331, .int .i64 0, .int .i64 0, .slice none 0 0, .slice none 0 0, .slice none 0 0, .int .i64 0, .slice none 0 0, .slice none 0 0]) ?_ 2 _ rfl; (with_reducible repeat (first | apply kN | apply kD | apply kA)); refine blk_put (cs := #[.int .i64 t330, .int .i64 0, .int .i64 0, .int .i64 0, .slice none 0 0, .slice none 0 0, .slice none 0 0, .int .i64 0, .slice none 0 0, .slice none 0 0]) ?_ 1 _ rfl; (with_reducible repeat (first | apply kN | apply kD | apply kA)); refine blk_put (cs := #[.int .i64 0, .int .i64 0, .int .i64 0, .int .i64 0, .slice none 0 0, .slice none 0 0, .slice none 0 0, .int .i64 0, .slice none 0 0, .slice none 0 0]) ?_ 0 _ rfl; (with_reducible repeat (first | apply kN | apply kD | apply kA)); refine blk_far ?_ NB328_329.out _; (with_reducible repeat (first | apply kN | apply kD | apply kA)); exact BK328.out) Try.underlying41 rfl (by kernel_rfl)) rfl ?_
 exact ⟨_, _, _, _, _, zR, by (with_reducible repeat (first | apply Kd.R_alloc | apply Kd.R_drewN | apply Kd.R_drew)); exact Kd.R_mono (Kd.R_far (p := ⟨gb328, 9, none⟩) (Kd.R_far (p := ⟨gb328, 8, none⟩) (Kd.R_far (p := ⟨gb328, 7, none⟩) (Kd.R_far (p := ⟨gb328, 6, none⟩) (Kd.R_far (p := ⟨gb328, 5, none⟩) (Kd.R_far (p := ⟨gb328, 4, none⟩) (Kd.R_far (p := ⟨gb328, 3, none⟩) (Kd.R_far (p := ⟨gb328, 2, none⟩) (Kd.R_far (p := ⟨gb328, 1, none⟩) (Kd.R_far (p := ⟨gb328, 0, none⟩) (Kd.R_far (p := ⟨gb329, 9, none⟩) (Kd.R_types (Kd.R_types HO336.out BK329.out (by decide)) BK328.out (by decide)) (fun _ hk => hk.1.2) (.slice Ao31 t346.length co31)) (fun _ hk => hk.2) (.int .i64 t330)) (fun _ hk => hk.2) (.int .i64 t331)) (fun _ hk => hk.2) (.int .i64 t332)) (fun _ hk => hk.2) (.int .i64 t333)) (fun _ hk => hk.2) (.slice Ao16 t334.length co16)) (fun _ hk => hk.2) (.slice Ao19 t337.length co19)) (fun _ hk => hk.2) (.slice Ao23 t340.length co23)) (fun _ hk => hk.2) (.int .i64 a0_7)) (fun _ hk => hk.2) (.slice Ao27 t343.length co27)) (fun _ hk => hk.2) (.slice Ao31 t346.length co31)) (fun _ hk => trivial), by (with_reducible repeat (first | apply Kd.S_alloc | apply Kd.S_drewN | apply Kd.S_drew)); exact Kd.S_mono (Kd.S_far (p := ⟨gb328, 9, none⟩) (Kd.S_far (p := ⟨gb328, 8, none⟩) (Kd.S_far (p := ⟨gb328, 7, none⟩) (Kd.S_far (p := ⟨gb328, 6, none⟩) (Kd.S_far (p := ⟨gb328, 5, none⟩) (Kd.S_far (p := ⟨gb328, 4, none⟩) (Kd.S_far (p := ⟨gb328, 3, none⟩) (Kd.S_far (p := ⟨gb328, 2, none⟩) (Kd.S_far (p := ⟨gb328, 1, none⟩) (Kd.S_far (p := ⟨gb328, 0, none⟩) (Kd.S_far (p := ⟨gb329, 9, none⟩) (Kd.S_types (Kd.S_types HO339.out BK329.out (by decide)) BK328.out (by decide)) (fun _ hk => hk.1.2) (.slice Ao31 t346.length co31)) (fun _ hk => hk.2) (.int .i64 t330)) (fun _ hk => hk.2) (.int .i64 t331)) (fun _ hk => hk.2) (.int .i64 t332)) (fun _ hk => hk.2) (.int .i64 t333)) (fun _ hk => hk.2) (.slice Ao16 t334.length co16)) (fun _ hk => hk.2) (.slice Ao19 t337.length co19)) (fun _ hk => hk.2) (.slice Ao23 t340.length co23)) (fun _ hk => hk.2) (.int .i64 a0_7)) (fun _ hk => hk.2) (.slice Ao27 t343.length co27)) (fun _ hk => hk.2) (.slice Ao31 t346.length co31)) (fun _ hk => trivial), by (with_reducible repeat (first | apply Kd.R_alloc | apply Kd.R_drewN | apply Kd.R_drew)); exact Kd.R_mono (Kd.R_far (p := ⟨gb328, 9, none⟩) (Kd.R_far (p := ⟨gb328, 8, none⟩) (Kd.R_far (p := ⟨gb328, 7, none⟩) (Kd.R_far (p := ⟨gb328, 6, none⟩) (Kd.R_far (p := ⟨gb328, 5, none⟩) (Kd.R_far (p := ⟨gb328, 4, none⟩) (Kd.R_far (p := ⟨gb328, 3, none⟩) (Kd.R_far (p := ⟨gb328, 2, none⟩) (Kd.R_far (p := ⟨gb328, 1, none⟩) (Kd.R_far (p := ⟨gb328, 0, none⟩) (Kd.R_far (p := ⟨gb329, 9, none⟩) (Kd.R_types (Kd.R_types HO342.out BK329.out (by decide)) BK328.out (by decide)) (fun _ hk => hk.1.2) (.slice Ao31 t346.length co31)) (fun _ hk => hk.2) (.int .i64 t330)) (fun _ hk => hk.2) (.int .i64 t331)) (fun _ hk => hk.2) (.int .i64 t332)) (fun _ hk => hk.2) (.int .i64 t333)) (fun _ hk => hk.2) (.slice Ao16 t334.length co16)) (fun _ hk => hk.2) (.slice Ao19 t337.length co19)) (fun _ hk => hk.2) (.slice Ao23 t340.length co23)) (fun _ hk => hk.2) (.int .i64 a0_7)) (fun _ hk => hk.2) (.slice Ao27 t343.length co27)) (fun _ hk => hk.2) (.slice Ao31 t346.length co31)) (fun _ hk => hk.1.1.2), by (with_reducible repeat (first | apply Kd.S_alloc | apply Kd.S_drewN | apply Kd.S_drew)); exact Kd.S_mono (Kd.S_far (p := ⟨gb328, 9, none⟩) (Kd.S_far (p := ⟨gb328, 8, none⟩) (Kd.S_far (p := ⟨gb328, 7, none⟩) (Kd.S_far (p := ⟨gb328, 6, none⟩) (Kd.S_far (p := ⟨gb328, 5, none⟩) (Kd.S_far (p := ⟨gb328, 4, none⟩) (Kd.S_far (p := ⟨gb328, 3, none⟩) (Kd.S_far (p := ⟨gb328, 2, none⟩) (Kd.S_far (p := ⟨gb328, 1, none⟩) (Kd.S_far (p := ⟨gb328, 0, none⟩) (Kd.S_far (p := ⟨gb329, 9, none⟩) (Kd.S_types (Kd.S_types HO345.out BK329.out (by decide)) BK328.out (by decide)) (fun _ hk => hk.1.2) (.slice Ao31 t346.length co31)) (fun _ hk => hk.2) (.int .i64 t330)) (fun _ hk => hk.2) (.int .i64 t331)) (fun _ hk => hk.2) (.int .i64 t332)) (fun _ hk => hk.2) (.int .i64 t333)) (fun _ hk => hk.2) (.slice Ao16 t334.length co16)) (fun _ hk => hk.2) (.slice Ao19 t337.length co19)) (fun _ hk => hk.2) (.slice Ao23 t340.length co23)) (fun _ hk => hk.2) (.int .i64 a0_7)) (fun _ hk => hk.2) (.slice Ao27 t343.length co27)) (fun _ hk => hk.2) (.slice Ao31 t346.length co31)) (fun _ hk => trivial), by (with_reducible repeat (first | apply Kd.R_alloc | apply Kd.R_drewN | apply Kd.R_drew)); exact Kd.R_mono (Kd.R_far (p := ⟨gb328, 9, none⟩) (Kd.R_far (p := ⟨gb328, 8, none⟩) (Kd.R_far (p := ⟨gb328, 7, none⟩) (Kd.R_far (p := ⟨gb328, 6, none⟩) (Kd.R_far (p := ⟨gb328, 5, none⟩) (Kd.R_far (p := ⟨gb328, 4, none⟩) (Kd.R_far (p := ⟨gb328, 3, none⟩) (Kd.R_far (p := ⟨gb328, 2, none⟩) (Kd.R_far (p := ⟨gb328, 1, none⟩) (Kd.R_far (p := ⟨gb328, 0, none⟩) (Kd.R_far (p := ⟨gb329, 9, none⟩) (Kd.R_types (Kd.R_types HO348.out BK329.out (by decide)) BK328.out (by decide)) (fun _ hk => hk.1.2) (.slice Ao31 t346.length co31)) (fun _ hk => hk.2) (.int .i64 t330)) (fun _ hk => hk.2) (.int .i64 t331)) (fun _ hk => hk.2) (.int .i64 t332)) (fun _ hk => hk.2) (.int .i64 t333)) (fun _ hk => hk.2) (.slice Ao16 t334.length co16)) (fun _ hk => hk.2) (.slice Ao19 t337.length co19)) (fun _ hk => hk.2) (.slice Ao23 t340.length co23)) (fun _ hk => hk.2) (.int .i64 a0_7)) (fun _ hk => hk.2) (.slice Ao27 t343.length co27)) (fun _ hk => hk.2) (.slice Ao31 t346.length co31)) (fun _ hk => trivial), zH⟩

theorem toStream_f (p w h r : Int) (l : List S98) (T : List (List Int)) (c : List (List (List Int))) (m : Int) (J : List S72) (N : List Int) (hl : l.length ≤ 1048576) (hT : T.length ≤ 1048576) (hTx : ∀ x ∈ T, x.length ≤ 1048576)
    (hc : c.length ≤ 1048576) (hcx : ∀ x ∈ c, BndS 1048576 x) (hJ : J.length ≤ 1048576) (hJx : ∀ x ∈ J, x.f0.length ≤ 1048576) (hN : N.length ≤ 1048576) :
    Ev (fun k => laws_toStream.f k p w h r l T c m J N) (p, w, h, r, l.map convC, T, c, m, J.map convS, N) := by
  unfold laws_toStream.f
  exact evBind (toFrame_f p w h r l hl) (evBind (toIntSS_f T hT hTx) (evBind (toCoefs_f c hc hcx) (evBind (toScanS_f J hJ hJx) (evBind (toByteS_f N hN) (Ev.now _)))))

-- NOT PRINTED: function 49 (slices_IndexFunc_int_int)

-- NOT PRINTED: function 24 (slices_ContainsFunc_int_int)

-- NOT PRINTED: function 81 (impl_Comp_81)

-- NOT PRINTED: function 65 (impl_Comp_65)

/-! ### impl_FrameOk_1: function 66 (by hand) -/
/-- Where the first element lies that a test takes; -1 if there is none. -/
def idxP {α : Type} (p : α → Bool) : List α → Nat → Int
  | [], _ => -1
  | x :: xs, i => if p x = true then (i : Int) else idxP p xs (i + 1)
theorem idxP_none {α : Type} (p : α → Bool) : ∀ (l : List α) (i : Nat), l.any p = false → idxP p l i = -1
  | [], _, _ => rfl
  | x :: xs, i, h => by
    rw [List.any_cons, Bool.or_eq_false_iff] at h
    rw [idxP, h.1, if_neg (by simp)]
    exact idxP_none p xs (i + 1) h.2
theorem idxP_nonneg {α : Type} (p : α → Bool) : ∀ (l : List α) (i : Nat), decide (0 ≤ idxP p l i) = l.any p
  | [], _ => rfl
  | x :: xs, i => by
    rw [idxP, List.any_cons]
    cases h : p x with
    | true => rw [if_pos rfl]; simp
    | false => rw [if_neg (by simp), Bool.false_or]; exact idxP_nonneg p xs (i + 1)
theorem idxP_at {α : Type} (p : α → Bool) : ∀ (l : List α) (i k : Nat) (hk : k < l.length), (∀ j (hj : j < l.length), j < k → p l[j] = false) → p l[k] = true → idxP p l i = ((i + k : Nat) : Int)
  | [], _, k, hk, _, _ => by simp at hk
  | x :: xs, i, 0, _, _, h => by
    have h2 : p x = true := h
    rw [idxP, if_pos h2]
    simp
  | x :: xs, i, k + 1, hk, h0, h => by
    have hx : p x = false := h0 0 (by simp) (by omega)
    rw [idxP, hx, if_neg (by simp)]
    have := idxP_at p xs (i + 1) k (by simpa using hk) (fun j hj hjk => h0 (j + 1) (by simpa using hj) (by omega)) h
    rw [this, show i + 1 + k = i + (k + 1) from by omega]
set_option maxHeartbeats 8000000 in
set_option maxRecDepth 100000 in
theorem indexFunc_Comp (cl : Nat) (lb : Array Value) (p : S74 → Bool) (A : Option Addr) (c : Nat) (l : List S74) (W : World) (hr : Kd.C k74 W A l.length l)
    (eg : ∀ args w, (callFunc cl args).run Try.prog w = .ok (.enter cl args) w)
    (hp : ∀ (W' : World) (x : S74), Below W.heap.size W W' → Calls Try.prog cl (#[.agg #[.int .i64 x.f0, .int .i64 x.f1, .int .i64 x.f2, .int .i64 x.f3]] ++ lb) W' fun e w' => e = .returned (.bool (p x)) ∧ Below W.heap.size W w') :
    Calls Try.prog 81 #[.slice A l.length c, .func (.func cl) #[] lb] W fun e w' => e = .returned (.int .i64 (idxP p l 0)) ∧ Below W.heap.size W w' := by
  have hmax := Kd.C_max hr
  have HR := Aside0.mk hr
  have HP := Aside0.mk hp
  clear hr hp
  have HB := Aside0.mk (Below.refl W.heap.size W)
  go_enter Try.func81, Try.ntmps81
  go_wp2
  go_loopg [5, 8] l.length (fun gg _ s8 wr => ∃ kk : Nat, kk ≤ l.length ∧ l.length - kk ≤ gg ∧ s8 = .int .i64 (kk : Int) ∧ Aside0 (Below W.heap.size W wr) ∧ Aside0 (∀ j (hj : j < l.length), j < kk → p l[j] = false))
  case atStart => exact ⟨0, Nat.zero_le _, by omega, rfl, HB, ⟨fun j _ hj => absurd hj (Nat.not_lt_zero _)⟩⟩
  case round =>
    clear HB
    obtain ⟨kk, hkk, hg, rfl, BW, AN⟩ := hrel
    by_cases hlt : kk < l.length
    · have hltz : (kk : Int) < (l.length : Int) := by omega
      have h0z : (0 : Int) ≤ (kk : Int) := by omega
      have d1 : decide ((kk : Int) < (l.length : Int)) = true := decide_eq_true hltz
      have d2 : decide ((0 : Int) ≤ (kk : Int)) = true := decide_eq_true h0z
      obtain ⟨ad, e1, hx0, hx1, hx2, hx3⟩ := at_T74 HR.out (kk : Int) h0z hltz
      cases e1
      rw [Int.toNat_natCast] at hx0 hx1 hx2 hx3
      replace hx0 := (BW.out.cell (World.block_lt_of_cell? W _ hx0)).trans hx0
      replace hx1 := (BW.out.cell (World.block_lt_of_cell? W _ hx1)).trans hx1
      replace hx2 := (BW.out.cell (World.block_lt_of_cell? W _ hx2)).trans hx2
      replace hx3 := (BW.out.cell (World.block_lt_of_cell? W _ hx3)).trans hx3
      have EY : Aside0 (rd_T74 l (kk : Int) = l[kk]) := ⟨by simp [rd_T74, List.getD, hlt]⟩
      have hcall := HP.out wr (rd_T74 l (kk : Int)) BW.out
      cases hq : p (rd_T74 l (kk : Int)) with
      | true =>
        rw [hq] at hcall
        have HQ := Aside0.mk hq
        clear hq
        go_wp2_with (go_at_fn cl; refine hcall.mono ?_; rintro e w' ⟨rfl, hb'⟩)
        go_ret
        refine ⟨?_, hb'⟩
        have hh := HQ.out
        rw [EY.out] at hh
        have := idxP_at p l 0 kk hlt AN.out hh
        rw [Nat.zero_add] at this
        rw [this]
        rfl
      | false =>
        rw [hq] at hcall
        have HQ := Aside0.mk hq
        clear hq
        go_wp2_with (go_at_fn cl; refine hcall.mono ?_; rintro e w' ⟨rfl, hb'⟩)
        go_roundg (l.length - (kk + 1))
        case measure => omega
        case rel =>
          refine ⟨kk + 1, by omega, by omega, by go_num, ⟨hb'⟩, ⟨fun j hj hjk => ?_⟩⟩
          by_cases e : j = kk
          · subst e
            have hh := HQ.out
            rwa [EY.out] at hh
          · exact AN.out j hj (by omega)
    · have d1 : decide ((kk : Int) < (l.length : Int)) = false := decide_eq_false (by omega)
      go_wp2
      go_ret
      refine ⟨?_, BW.out⟩
      rw [idxP_none p l 0 (by
        rw [List.any_eq_false]
        intro x hx
        obtain ⟨j, hj, rfl⟩ := List.getElem_of_mem hx
        rw [AN.out j hj (by omega)]
        simp)]
      rfl
set_option maxHeartbeats 8000000 in
set_option maxRecDepth 100000 in
theorem containsFunc_Comp (cl : Nat) (lb : Array Value) (p : S74 → Bool) (A : Option Addr) (c : Nat) (l : List S74) (W : World) (hr : Kd.C k74 W A l.length l)
    (eg : ∀ args w, (callFunc cl args).run Try.prog w = .ok (.enter cl args) w)
    (hp : ∀ (W' : World) (x : S74), Below W.heap.size W W' → Calls Try.prog cl (#[.agg #[.int .i64 x.f0, .int .i64 x.f1, .int .i64 x.f2, .int .i64 x.f3]] ++ lb) W' fun e w' => e = .returned (.bool (p x)) ∧ Below W.heap.size W w') :
    Calls Try.prog 65 #[.slice A l.length c, .func (.func cl) #[] lb] W fun e w' => e = .returned (.bool (l.any p)) ∧ Below W.heap.size W w' := by
  have HR := Aside0.mk hr
  have HP := Aside0.mk hp
  clear hr hp
  rw [← idxP_nonneg p l 0]
  go_enter Try.func65, Try.ntmps65
  go_wp2_with (go_at_call 81; refine (indexFunc_Comp cl lb p A c l _ HR.out eg HP.out).mono ?_; rintro e w' ⟨rfl, hb'⟩)
  go_ret
  exact ⟨rfl, hb'⟩
set_option maxHeartbeats 8000000 in
set_option maxRecDepth 100000 in
theorem frameOk1_one (g : Nat) (y : S74) (c0 c1 c2 c3 : Int) (w W : World) (hbx : w.heap[g]? = some (.cells #[.int .i64 c0, .int .i64 c1, .int .i64 c2, .int .i64 c3] 74 (0, 0))) (hb : Below w.heap.size w W) :
    Calls Try.prog 66 (#[.agg #[.int .i64 y.f0, .int .i64 y.f1, .int .i64 y.f2, .int .i64 y.f3]] ++ #[.pointer (some ⟨g, 0, none⟩)]) W fun e w' => e = .returned (.bool (y.f0 == c0)) ∧ Below w.heap.size w w' := by
  have hc : W.cell? ⟨g, 0, none⟩ = some (.int .i64 c0) := (blk_cell (blk_below hbx hb) 0).trans rfl
  have hlt := World.block_lt_of_cell? W _ hc
  have HB := Aside0.mk hb
  clear hb hbx
  have hu := Try.underlying74
  go_enter Try.func66, Try.ntmps66
  go_wp2
  go_ret
  exact ⟨rfl, by repeat (first | exact HB.out | apply below_alloc | apply pw_below_drewN | apply below_drew1)⟩
def impl_FrameOk_1.f (l : List S74) (c0 _c1 _c2 _c3 : Int) : Option Bool := some (l.any fun y => y.f0 == c0)
theorem impl_FrameOk_1.calls (A : Option Addr) (c : Nat) (l : List S74) (g : Nat) (c0 c1 c2 c3 : Int) (r : Bool) (w : World) (hr : Kd.C k74 w A l.length l) (_hc : l.length ≤ c)
  (hbx : w.heap[g]? = some (.cells #[.int .i64 c0, .int .i64 c1, .int .i64 c2, .int .i64 c3] 74 (0, 0))) (h : impl_FrameOk_1.f l c0 c1 c2 c3 = some r) :
  Calls Try.prog 65 #[.slice A l.length c, .func (.func 66) #[] #[.pointer (some ⟨g, 0, none⟩)]] w fun e w' => e = .returned (.bool r) ∧ Below w.heap.size w w' := by
 obtain rfl := Option.some.inj h
 exact containsFunc_Comp 66 _ (fun y => y.f0 == c0) A c l w hr (enters_of Try.func66 (by kernel_rfl) rfl) (fun W' x hb => frameOk1_one g x c0 c1 c2 c3 w W' hbx hb)

end Go.Proofs.Ytpcfjobojdldnaa.CV
