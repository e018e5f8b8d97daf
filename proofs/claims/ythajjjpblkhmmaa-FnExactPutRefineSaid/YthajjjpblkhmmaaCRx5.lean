/- Functions that a law of this seat reaches: written by a program of this session (wip/xprint.py), and by hand. -/
import Derived.Test.YthajjjpblkhmmaaCRx0
import Derived.Test.YthajjjpblkhmmaaCRx1
import Derived.Test.YthajjjpblkhmmaaCRx2
import Derived.Test.YthajjjpblkhmmaaCRx3
import Derived.Test.YthajjjpblkhmmaaCRx4
namespace Go.Proofs.Ythajjjpblkhmmaa.CR
open Go.RowKit Go.Proofs.Ythajjjpblkhmmaa.B Go.Proofs.YthajjjpblkhmmaaW.PrintWords Go.Proofs.YthajjjpblkhmmaaW.PrintLast Go.Proofs.YthajjjpblkhmmaaW.PrintMore
attribute [local go_sem] max2_int min2_int max_two min_two max_three min_three max_four min_four   -- for this text's walks alone
set_option linter.unusedVariables false
set_option linter.unusedSimpArgs false

theorem pow13 (low : Int) (h0 : 0 ≤ low) (h1 : low ≤ 13) : (1 : Int) ≤ 2 ^ low.toNat ∧ (2 : Int) ^ low.toNat ≤ 8192 := by
  have h4 : (2 : Nat) ^ low.toNat ≤ 8192 := Nat.le_trans (Nat.pow_le_pow_right (by omega) (show low.toNat ≤ 13 by omega)) (by decide)
  have h5 : ((2 ^ low.toNat : Nat) : Int) = 2 ^ low.toNat := by simp
  have h6 := pow_pos' low.toNat
  rw [← h5] at h6 ⊢
  omega
def newV (v n low : Int) : Int := v + (if v < 0 then -n else n) * 2 ^ low.toNat
def okB (v n low : Int) : Bool := inR n (-1) 1 && ((decide (0 ≤ n) || decide (v = 0)) && inR (newV v n low) (-16383) 16383)
def bitB (v n : Int) : Bool := inR n (-1) 1 && (decide (0 ≤ n) || decide (v = 0))
theorem okB_iff {v n low : Int} : okB v n low = true ↔ (-1 ≤ n ∧ n ≤ 1) ∧ (0 ≤ n ∨ v = 0) ∧ (-16383 ≤ newV v n low ∧ newV v n low ≤ 16383) := by
  simp only [okB, Bool.and_eq_true, Bool.or_eq_true, inR_iff, decide_eq_true_eq]
theorem bitB_iff {v n : Int} : bitB v n = true ↔ (-1 ≤ n ∧ n ≤ 1) ∧ (0 ≤ n ∨ v = 0) := by
  simp only [bitB, Bool.and_eq_true, Bool.or_eq_true, inR_iff, decide_eq_true_eq]
theorem toZ_mapR' (b : List Int) : toZ b = mapR (fun j => rd (toZ b) (j : Int)) := (mapR_self (toZ_length b)).symm
/-- Of a pass from f on: the number m puts its bit where it may. -/
def okAt (b list : List Int) (f low : Int) (m : Nat) : Bool := okB (rd (toZ b) (f + m)) (rd list (m : Int)) low
def bitAt2 (b list : List Int) (f : Int) (m : Nat) : Bool := bitB (rd (toZ b) (f + m)) (rd list (m : Int))
def okAll (b list : List Int) (f low : Int) : Bool := (List.range list.length).all (okAt b list f low)
def zprF (b list : List Int) (f low : Int) (m : Nat) : Nat → Int := fun j => if f ≤ (j : Int) ∧ (j : Int) < f + m then newV (rd (toZ b) (j : Int)) (rd list ((j : Int) - f)) low else rd (toZ b) (j : Int)
def prF (b list : List Int) (f low : Int) (m : Nat) : Nat → Int := fun p => if f ≤ (zi p : Int) ∧ (zi p : Int) < f + m then newV (rd b (p : Int)) (rd list ((zi p : Int) - f)) low else rd b (p : Int)
def prI (b : List Int) (f t h l : Int) (list : List Int) : List Int :=
  if numsB b (-16383) 16383 = true ∧ passB f t h l = true ∧ h ≠ 0 ∧ (list.length : Int) = t - f + 1 ∧ okAll b list f l = true then mapR (prF b list f l list.length) else []
theorem prI_length (b : List Int) (f t h l : Int) (list : List Int) : (prI b f t h l list).length ≤ 64 := by
  unfold prI
  split
  · rw [mapR_length]; exact Nat.le_refl _
  · simp
theorem newV_bd {v n low : Int} (hv : -16383 ≤ v ∧ v ≤ 16383) (hn : -1 ≤ n ∧ n ≤ 1) (h0 : 0 ≤ low) (h1 : low ≤ 13) : -100000 ≤ newV v n low ∧ newV v n low ≤ 100000 := by
  obtain ⟨p1, p2⟩ := pow13 low h0 h1
  unfold newV
  generalize (2 : Int) ^ low.toNat = P at p1 p2 ⊢
  have h : n = -1 ∨ n = 0 ∨ n = 1 := by omega
  rcases h with rfl | rfl | rfl <;> split <;> omega
theorem zpr_set (b list : List Int) (f low : Int) (m : Nat) (h0 : 0 ≤ f) (hm : f + m < 64) :
    (mapR (zprF b list f low m)).set (f + m).toNat (newV (rd (toZ b) (f + m)) (rd list (m : Int)) low) = mapR (zprF b list f low (m + 1)) := by
  rw [mapR_set]
  refine mapR_congr fun j hj => ?_
  unfold zprF
  by_cases e : j = (f + m).toNat
  · rw [if_pos e, if_pos ⟨by omega, by omega⟩, show (j : Int) - f = m from by omega, show f + (m : Int) = (j : Int) from by omega]
  · rw [if_neg e]
    by_cases h : f ≤ (j : Int) ∧ (j : Int) < f + m
    · rw [if_pos h, if_pos ⟨h.1, by omega⟩]
    · rw [if_neg h, if_neg (fun h2 => h ⟨h2.1, by omega⟩)]
theorem zpr_from (b list : List Int) (f low : Int) (hb : b.length = 64) (m : Nat) : mapR (fun p => rd (mapR (zprF b list f low m)) (zi p : Int)) = mapR (prF b list f low m) := by
  refine mapR_congr fun p hp => ?_
  obtain ⟨h1, h2⟩ := zi_all hp
  rw [mapR_rd _ h1]
  unfold zprF prF
  rw [toZ_rd b (zi p) h1, h2]
theorem pr_set (b list : List Int) (f low : Int) (m j : Nat) (hj : f + m = j) (hm : j < 64) :
    (mapR (prF b list f low m)).set (rd zzL (j : Int)).toNat (newV (rd b (rd zzL (j : Int))) (rd list (m : Int)) low) = mapR (prF b list f low (m + 1)) := by
  have hr := zz_rd j hm
  rw [mapR_set]
  refine mapR_congr fun p hp => ?_
  obtain ⟨h1, h2⟩ := zi_all hp
  unfold prF
  by_cases e : p = (rd zzL (j : Int)).toNat
  · have hz := zz_zi hm
    rw [← e] at hz
    rw [if_pos e, if_pos ⟨by omega, by omega⟩, show (zi p : Int) - f = m from by omega, show (p : Int) = rd zzL (j : Int) from by omega]
  · rw [if_neg e]
    have hne : zi p ≠ j := fun h => e (by rw [h] at h2; omega)
    by_cases h : f ≤ (zi p : Int) ∧ (zi p : Int) < f + m
    · rw [if_pos h, if_pos ⟨h.1, by omega⟩]
    · rw [if_neg h, if_neg (fun h3 => h ⟨h3.1, by omega⟩)]
theorem pr_at (b list : List Int) (f low : Int) (m j : Nat) (hj : f + m = j) (hm : j < 64) : rd (mapR (prF b list f low m)) (rd zzL (j : Int)) = rd b (rd zzL (j : Int)) := by
  have hr := zz_rd j hm
  obtain ⟨p, hp⟩ : ∃ p : Nat, rd zzL (j : Int) = p := ⟨(rd zzL (j : Int)).toNat, by omega⟩
  have hz := zz_zi hm
  rw [hp] at hr hz ⊢
  rw [mapR_rd _ (by omega)]
  unfold prF
  rw [Int.toNat_natCast] at hz
  rw [if_neg (by rw [hz]; omega)]
theorem zpr_at (b list : List Int) (f low : Int) (m : Nat) (h0 : 0 ≤ f) (hm : f + m < 64) : rd (mapR (zprF b list f low m)) (f + m) = rd (toZ b) (f + m) := by
  rw [show f + (m : Int) = ((f + m).toNat : Int) from by omega, mapR_rd _ (by omega)]
  unfold zprF
  rw [if_neg (by omega)]
theorem okAll_of {b list : List Int} {f low : Int} (h : ∀ j : Nat, j < list.length → okAt b list f low j = true) : okAll b list f low = true := List.all_eq_true.2 fun j hj => h j (List.mem_range.1 hj)
theorem okAll_no {b list : List Int} {f low : Int} {m : Nat} (hm : m < list.length) (h : okAt b list f low m = false) : okAll b list f low = false := by
  refine Bool.eq_false_iff.2 fun ha => ?_
  have := List.all_eq_true.1 ha m (List.mem_range.2 hm)
  rw [h] at this
  cases this
theorem newV_s {v n low : Int} (hv : -16383 ≤ v ∧ v ≤ 16383) (hn : -1 ≤ n ∧ n ≤ 1) (h0 : 0 ≤ low) (h1 : low ≤ 13) :
    (v < 0 → wrap64 (v + wrap64 (wrap64 (-n) * shl .i64 1 low)) = newV v n low) ∧ (¬ v < 0 → wrap64 (v + wrap64 (n * shl .i64 1 low)) = newV v n low) := by
  obtain ⟨p1, p2⟩ := pow13 low h0 h1
  rw [shl1 low h0 (by omega)]
  unfold newV
  generalize (2 : Int) ^ low.toNat = P at p1 p2 ⊢
  have h : n = -1 ∨ n = 0 ∨ n = 1 := by omega
  refine ⟨fun hc => ?_, fun hc => ?_⟩
  · rw [if_pos hc, w64 (x := -n) (by omega) (by omega)]
    rcases h with rfl | rfl | rfl <;> (rw [w64 (x := _ * P) (by omega) (by omega), w64 (by omega) (by omega)])
  · rw [if_neg hc]
    rcases h with rfl | rfl | rfl <;> (rw [w64 (x := _ * P) (by omega) (by omega), w64 (by omega) (by omega)])
theorem sRefP_l0 (b list c : List Int) (hb : numsB b (-16383) 16383 = true) (f t h low : Int) (h0 : 0 ≤ f) (h1 : f ≤ t) (h2 : t ≤ 63) (h3 : 0 ≤ low) (h4 : low ≤ 13) (hl : (list.length : Int) = t - f + 1) :
    ∀ (d m : Nat), (m : Int) + d = t - f + 1 → (∀ j : Nat, j < m → okAt b list f low j = true) →
      Ev (fun k => spec_PutRefine.l0 k list (mapR (zprF b list f low m)) (f + m) c f t h low) (if okAll b list f low = true then mapR (prF b list f low list.length) else []) := by
  intro d
  induction d with
  | zero =>
    intro m hm hd
    have hml : m = list.length := by omega
    refine Ev.step (fun k => by rw [spec_PutRefine.l0]) (evNeg (by omega) ?_)
    rw [if_pos (okAll_of (fun j hj => hd j (by omega)))]
    refine evBind (sFromZig_f _ ?_) ?_
    · refine mapR_all fun j hj => ?_
      unfold zprF
      by_cases hh : f ≤ (j : Int) ∧ (j : Int) < f + m
      · rw [if_pos hh]
        have := hd (j - f.toNat) (by omega)
        unfold okAt at this
        rw [show f + ((j - f.toNat : Nat) : Int) = (j : Int) from by omega, show ((j - f.toNat : Nat) : Int) = (j : Int) - f from by omega] at this
        have h5 := (okB_iff.1 this).2.2
        omega
      · rw [if_neg hh]
        exact toZ_small hb _
    · rw [zpr_from b list f low (nums_len hb), ← hml]
      exact Ev.now _
  | succ d ih =>
    intro m hm hd
    have hml : m < list.length := by omega
    have e1 : wrap64 (f + m - f) = m := by rw [show f + (m : Int) - f = m from by omega]; exact w64n (by omega)
    have hz : -16383 ≤ rd (toZ b) (f + m) ∧ rd (toZ b) (f + m) ≤ 16383 := by
      rw [show f + (m : Int) = ((f + m).toNat : Int) from by omega, toZ_rd b _ (by omega)]
      have hr := zz_rd (f + m).toNat (by omega)
      obtain ⟨p, hp⟩ : ∃ p : Nat, rd zzL ((f + m).toNat : Int) = p := ⟨(rd zzL ((f + m).toNat : Int)).toNat, by omega⟩
      rw [hp] at hr ⊢
      have hl2 := nums_len hb
      rw [rd_nat (show p < b.length by omega)]
      simp only [numsB, Bool.and_eq_true, allR] at hb
      exact inR_iff.1 (List.all_eq_true.1 hb.2 _ (List.getElem_mem _))
    have no : okAt b list f low m = false → Ev (fun _ => (some ([] : List Int))) (if okAll b list f low = true then mapR (prF b list f low list.length) else []) := fun hno => by
      rw [okAll_no hml hno, if_neg (by simp)]
      exact Ev.now _
    refine Ev.step (fun k => by rw [spec_PutRefine.l0]) (evPos (by omega) ?_)
    rw [e1]
    refine evPos (by omega) (evPos (by omega) (evBind (evConst (between_f _ _ _)) ?_))
    have tt : okAt b list f low m = false → Ev (fun k => spec_PutRefine.j2 k list (mapR (zprF b list f low m)) (f + m) (rd list (m : Int)) true c f t h low) (if okAll b list f low = true then mapR (prF b list f low list.length) else []) := fun hno => Ev.step (fun k => by rw [spec_PutRefine.j2]) (evPos rfl (no hno))
    have za := zpr_at b list f low m h0 (by omega)
    refine evIf (fun hn => ?_) (fun hn => tt ?_)
    · have hn2 := inR_iff.1 hn
      have ff : (0 ≤ rd list (m : Int) ∨ rd (toZ b) (f + m) = 0) → Ev (fun k => spec_PutRefine.j2 k list (mapR (zprF b list f low m)) (f + m) (rd list (m : Int)) false c f t h low) (if okAll b list f low = true then mapR (prF b list f low list.length) else []) := fun hor => by
        obtain ⟨ea, eb⟩ := newV_s (v := rd (toZ b) (f + m)) (n := rd list (m : Int)) (low := low) hz hn2 h3 h4
        refine Ev.step (fun k => by rw [spec_PutRefine.j2]) (evNeg (by simp) (evPos (by omega) (evPos (by rw [mapR_length]; omega) ?_)))
        rw [za]
        have go : Ev (fun k => (some (inR (newV (rd (toZ b) (f + m)) (rd list (m : Int)) low) (-16383) 16383)).bind fun t187 => (if t187 = true then (spec_PutRefine.l0 k list ((mapR (zprF b list f low m)).set (f + m).toNat (newV (rd (toZ b) (f + m)) (rd list (m : Int)) low)) (wrap64 (f + m + 1)) c f t h low) else (some ([] : List Int)))) (if okAll b list f low = true then mapR (prF b list f low list.length) else []) := by
          refine evBind (Ev.now _) (evIf (fun hin => ?_) (fun hin => no ?_))
          · have hpb : okAt b list f low m = true := okB_iff.2 ⟨hn2, hor, inR_iff.1 hin⟩
            rw [zpr_set b list f low m h0 (by omega), w64 (x := f + (m : Int) + 1) (by omega) (by omega)]
            have := ih (m + 1) (by omega) (fun j hj => by
              by_cases e : j = m
              · rw [e]; exact hpb
              · exact hd j (by omega))
            rw [show f + ((m + 1 : Nat) : Int) = f + m + 1 from by omega] at this
            exact this
          · refine Bool.eq_false_iff.2 fun hk => hin ?_
            exact inR_iff.2 (okB_iff.1 hk).2.2
        refine evIf (fun hc => evPos h3 ?_) (fun hc => evPos h3 ?_)
        · rw [ea hc, between_f]
          exact go
        · rw [eb hc, between_f]
          exact go
      refine evIf (fun hneg => ?_) (fun hneg => ff (.inl (by omega)))
      refine evPos (by omega) (evPos (by rw [mapR_length]; omega) ?_)
      rw [za]
      by_cases hv0 : rd (toZ b) (f + m) = 0
      · rw [show (rd (toZ b) (f + m) != 0) = false from by simp [hv0]]
        exact ff (.inr hv0)
      · rw [show (rd (toZ b) (f + m) != 0) = true from by simp [hv0]]
        refine tt (Bool.eq_false_iff.2 fun hk => ?_)
        have := (okB_iff.1 hk).2.1
        omega
    · refine Bool.eq_false_iff.2 fun hk => hn ?_
      exact inR_iff.2 (okB_iff.1 hk).1
theorem sPutRefine_f (b c : List Int) (f t h l : Int) (list : List Int) (hlen : list.length ≤ 1048576) : Ev (fun k => spec_PutRefine.f k b c f t h l list) (prI b f t h l list) := by
  have no : ¬ (numsB b (-16383) 16383 = true ∧ passB f t h l = true ∧ h ≠ 0 ∧ (list.length : Int) = t - f + 1) → Ev (fun k => spec_PutRefine.j0 k b list true c f t h l) (prI b f t h l list) := fun hn => by
    unfold prI
    rw [if_neg (fun h => hn ⟨h.1, h.2.1, h.2.2.1, h.2.2.2.1⟩)]
    exact Ev.step (fun k => by rw [spec_PutRefine.j0]) (evPos rfl (Ev.now _))
  unfold spec_PutRefine.f
  refine evBind (sLevel_f b) (evIf (fun hl => ?_) (fun hl => no (fun h => hl h.1)))
  refine evBind (evConst (l12_f c f t h l)) (evIf (fun hp => ?_) (fun hp => no (fun h => hp h.2.1)))
  obtain ⟨p1, p2, p3, p4, p5, _⟩ := pass_bounds hp
  refine evIf (fun hh => no (fun h => h.2.2.1 hh)) (fun hh => ?_)
  rw [w64 (x := t - f) (by omega) (by omega), w64 (by omega) (by omega)]
  by_cases he : (list.length : Int) = t - f + 1
  · rw [show ((list.length : Int) != t - f + 1) = false from by simp [he]]
    refine Ev.step (fun k => by rw [spec_PutRefine.j0]) (evNeg (by simp) ?_)
    refine evBind (sToZig_f b (nums_of hl (by omega) (by omega))) ?_
    have := sRefP_l0 b list c hl f t h l p1 p2 p3 p4 p5 he (t - f + 1).toNat 0 (by omega) (fun j hj => by omega)
    rw [mapR_congr (f := fun j => rd (toZ b) (j : Int)) (fun j _ => by unfold zprF; rw [if_neg (by omega)]), ← toZ_mapR'] at this
    unfold prI
    by_cases ha : okAll b list f l = true
    · rw [if_pos ⟨hl, hp, hh, he, ha⟩]
      rw [if_pos ha] at this
      simpa using this
    · rw [if_neg (fun h => ha h.2.2.2.2)]
      rw [if_neg ha] at this
      simpa using this
  · rw [show ((list.length : Int) != t - f + 1) = true from by simp [he]]
    exact no (fun h => he h.2.2.2)

/-! ### impl_within: function 101 -/
def impl_within.f (a0 : Int) (a1 : Int) (a2 : Int) : Option (Bool) := if a0 ≥ a1 then (some (decide (a0 ≤ a2))) else (some false)
set_option maxHeartbeats 8000000 in
set_option maxRecDepth 100000 in
theorem impl_within.calls (a0 : Int) (a1 : Int) (a2 : Int) (r : Bool) (w : World) (h : impl_within.f a0 a1 a2 = some r) :
    Calls Try.prog 101 #[.int .i64 a0, .int .i64 a1, .int .i64 a2] w fun e w' => e = .returned (.bool r) ∧ Drawn0 w w' := by
  have H : (if a0 ≥ a1 then (some (decide (a0 ≤ a2))) else (some false)) = some r := h
  clear h
  by_cases c4 : a0 ≥ a1
  · rw [if_pos c4] at H
    have c4b0 : decide (a1 ≤ a0) = true := decide_eq_true c4
    clear c4
    obtain rfl := Option.some.inj H
    go_enter Try.func101, Try.ntmps101
    go_wp2
    go_ret
    exact ⟨by first | rfl | (simp; done) | (simp [*]; done), by repeat (first | exact Drawn0.refl _ | apply Drawn0.step)⟩
  · rw [if_neg c4] at H
    have c4b0 : decide (a1 ≤ a0) = false := decide_eq_false c4
    clear c4
    obtain rfl := Option.some.inj H
    go_enter Try.func101, Try.ntmps101
    go_wp2
    go_ret
    exact ⟨by first | rfl | (simp; done) | (simp [*]; done), by repeat (first | exact Drawn0.refl _ | apply Drawn0.step)⟩

theorem within_f (a b c : Int) : impl_within.f a b c = some (inR a b c) := inR_ite a b c

/-! ### impl_allWithin: function 111 -/
def impl_allWithin.l0 : Nat → Int → Int → List Int → Int → Int → Option (Bool)
  | 0, _, _, _, _, _ => none
  | k + 1, x1, x2, x9, x10, x11 => if x11 < x10 then (if 0 ≤ x11 then (if x11 < (x9.length : Int) then ((impl_within.f (rd x9 x11) x1 x2).bind fun t199 => (if t199 = true then (impl_allWithin.l0 k x1 x2 x9 x10 (wrap64 (x11 + 1))) else (some false))) else (none)) else (none)) else (some true)
def impl_allWithin.f (k : Nat) (l0 : List Int) (a1 : Int) (a2 : Int) : Option (Bool) := impl_allWithin.l0 k a1 a2 l0 (l0.length : Int) 0
theorem impl_allWithin.mono_l : ∀ k, (∀ y0 y1 y2 y3 y4, LeO (impl_allWithin.l0 k y0 y1 y2 y3 y4) (impl_allWithin.l0 (k + 1) y0 y1 y2 y3 y4))
  | 0 => fun _ _ _ _ _ r h => by simp [impl_allWithin.l0] at h
  | k + 1 => by
    have ih0 := impl_allWithin.mono_l k
    · intro y0 y1 y2 y3 y4
      unfold impl_allWithin.l0
      repeat' first
      | (with_reducible exact ih0 _ _ _ _ _)
      | (with_reducible exact LeO.refl _)
      | (with_reducible exact LeO.none _)
      | (with_reducible refine LeO.ite ?_ ?_)
      | (with_reducible refine LeO.bind ?_ (fun _ => ?_))
      | exact ih0 _ _ _ _ _
      | exact LeO.none _
      | refine LeO.ite ?_ ?_
      | refine LeO.bind ?_ (fun _ => ?_)
theorem impl_allWithin.mono : ∀ a0 a1 a2 k, LeO (impl_allWithin.f k a0 a1 a2) (impl_allWithin.f (k + 1) a0 a1 a2) := by
  intro a0 a1 a2 k
  have ih0 := impl_allWithin.mono_l k
  unfold impl_allWithin.f
  repeat' first
      | (with_reducible exact ih0 _ _ _ _ _)
      | (with_reducible exact LeO.refl _)
      | (with_reducible exact LeO.none _)
      | (with_reducible refine LeO.ite ?_ ?_)
      | (with_reducible refine LeO.bind ?_ (fun _ => ?_))
      | exact ih0 _ _ _ _ _
      | exact LeO.none _
      | refine LeO.ite ?_ ?_
      | refine LeO.bind ?_ (fun _ => ?_)
set_option maxHeartbeats 8000000 in
set_option maxRecDepth 100000 in
theorem impl_allWithin.calls (k : Nat) (A0 : Option Addr) (c0 : Nat) (l0 : List Int) (a1 : Int) (a2 : Int) (r : Bool) (w : World) (hr0 : Kd.C (Kd.int .i64) w A0 l0.length l0) (hc0 : l0.length ≤ c0) (h : impl_allWithin.f k l0 a1 a2 = some r) :
    Calls Try.prog 111 #[.slice A0 l0.length c0, .int .i64 a1, .int .i64 a2] w fun e w' => e = .returned (.bool r) ∧ Drawn0 w w' := by
  have HR0 := Aside0.mk hr0
  have HC0 := Aside0.mk hc0
  clear hr0 hc0
  have H : (impl_allWithin.l0 k a1 a2 l0 (l0.length : Int) 0) = some r := h
  clear h
  have H' := Aside0.mk H
  clear H
  go_enter Try.func111, Try.ntmps111
  go_wp2
  go_loopg [11] k (fun kq v11 w' => ∃ (x11_1 : Int), v11 = .int .i64 x11_1 ∧ Aside0 (impl_allWithin.l0 kq a1 a2 l0 (l0.length : Int) x11_1 = some r) ∧ Aside0 (kq ≤ k) ∧ Drawn0 w w')
  case atStart => exact ⟨(0), (by first | rfl | (simp; done) | (simp [*]; done)), H', ⟨Nat.le_refl _⟩, by repeat (first | exact Drawn0.refl _ | apply Drawn0.step)⟩
  case round =>
    clear H'
    try clear c1
    try clear p2
    obtain ⟨x11_1, rfl, HA, HK1, ⟨m1, rfl⟩⟩ := hrel
    cases gk with
    | zero => exact absurd HA.out (by simp [impl_allWithin.l0])
    | succ k1 =>
      have H := HA.out
      clear HA
      simp only [impl_allWithin.l0] at H
      by_cases c4 : x11_1 < (l0.length : Int)
      · rw [if_pos c4] at H
        have c4b0 : decide (x11_1 < (l0.length : Int)) = true := decide_eq_true c4
        clear c4
        by_cases c5 : 0 ≤ x11_1
        · rw [if_pos c5] at H
          have c5b0 : decide (0 ≤ x11_1) = true := decide_eq_true c5
          clear c5
          by_cases c6 : x11_1 < (l0.length : Int)
          · rw [if_pos c6] at H
            have c6b0 : decide (x11_1 < (l0.length : Int)) = true := decide_eq_true c6
            clear c6
            replace H := Option.bind_eq_some_iff.mp H
            obtain ⟨t199, A70, H⟩ := H
            replace H : (if t199 = true then (impl_allWithin.l0 k1 a1 a2 l0 (l0.length : Int) (wrap64 (x11_1 + 1))) else (some false)) = some r := H
            have A7 := Aside0.mk A70
            clear A70
            by_cases c8 : t199 = true
            · subst c8
              have H1 : (impl_allWithin.l0 k1 a1 a2 l0 (l0.length : Int) (wrap64 (x11_1 + 1))) = some r := by rw [if_pos rfl] at H; exact H
              clear H
              have H := H1
              clear H1
              have H' := Aside0.mk H
              clear H
              have p198 : 0 ≤ (x11_1 : Int) := of_decide_eq_true (by first | (with_reducible assumption) | assumption)
              have q198 : x11_1 < (l0.length : Int) := of_decide_eq_true (by first | (with_reducible assumption) | assumption)
              obtain ⟨ad198, e198, hx198_0⟩ := Kd.at_int HR0.out x11_1 p198 q198
              cases e198
              replace p198 := eq_true p198
              replace q198 := eq_true q198
              go_wp2_with (first | ((with_reducible refine gate_callee (f := 101) rfl ?_); refine goesL_ (some 18) rfl rfl Try.func101 (by kernel_rfl) rfl #[.int .i64 (rd l0 x11_1), .int .i64 a1, .int .i64 a2] rfl (by (try simp only [List.map_toArray, List.map_cons, List.map_nil]); first | done | rfl | (simp only [List.length_drop, List.length_take]; rfl)) ?_; (with_reducible refine (impl_within.calls (rd l0 x11_1) a1 a2 true _ A7.out).mono ?_); rintro e w' ⟨rfl, ⟨nd, rfl⟩⟩; refine ⟨_, rfl, ?_⟩))
              go_roundg k1
              case measure => have := HK1.out; omega
              case rel => exact ⟨(wrap64 (x11_1 + 1)), (by first | rfl | (simp; done) | (simp [*]; done)), H', ⟨by have := HK1.out; omega⟩, by repeat (first | exact Drawn0.refl _ | apply Drawn0.step)⟩
            · replace c8 := Bool.eq_false_iff.mpr c8
              subst c8
              have H1 : (some false) = some r := by rw [if_neg (show ¬ (false = true) by decide)] at H; exact H
              clear H
              have H := H1
              clear H1
              obtain rfl := Option.some.inj H
              have p198 : 0 ≤ (x11_1 : Int) := of_decide_eq_true (by first | (with_reducible assumption) | assumption)
              have q198 : x11_1 < (l0.length : Int) := of_decide_eq_true (by first | (with_reducible assumption) | assumption)
              obtain ⟨ad198, e198, hx198_0⟩ := Kd.at_int HR0.out x11_1 p198 q198
              cases e198
              replace p198 := eq_true p198
              replace q198 := eq_true q198
              go_wp2_with (first | ((with_reducible refine gate_callee (f := 101) rfl ?_); refine goesL_ (some 18) rfl rfl Try.func101 (by kernel_rfl) rfl #[.int .i64 (rd l0 x11_1), .int .i64 a1, .int .i64 a2] rfl (by (try simp only [List.map_toArray, List.map_cons, List.map_nil]); first | done | rfl | (simp only [List.length_drop, List.length_take]; rfl)) ?_; (with_reducible refine (impl_within.calls (rd l0 x11_1) a1 a2 false _ A7.out).mono ?_); rintro e w' ⟨rfl, ⟨nd, rfl⟩⟩; refine ⟨_, rfl, ?_⟩))
              go_ret
              exact ⟨by first | rfl | (simp; done) | (simp [*]; done), by repeat (first | exact Drawn0.refl _ | apply Drawn0.step)⟩
          · rw [if_neg c6] at H
            exact absurd H (by simp)
        · rw [if_neg c5] at H
          exact absurd H (by simp)
      · rw [if_neg c4] at H
        have c4b0 : decide (x11_1 < (l0.length : Int)) = false := decide_eq_false c4
        clear c4
        obtain rfl := Option.some.inj H
        go_wp2
        go_ret
        exact ⟨by first | rfl | (simp; done) | (simp [*]; done), by repeat (first | exact Drawn0.refl _ | apply Drawn0.step)⟩

theorem allWithin_l0 (lo up : Int) (l : List Int) (hl : l.length ≤ maxLen) : ∀ (d i : Nat), i + d = l.length → Ev (fun k => impl_allWithin.l0 k lo up l (l.length : Int) i) (allR (l.drop i) lo up) := by
  unfold maxLen at hl
  intro d
  induction d with
  | zero =>
    intro i hi
    refine Ev.step (fun k => by rw [impl_allWithin.l0]) ?_
    rw [List.drop_eq_nil_of_le (by omega)]
    exact evNeg (by omega) (Ev.now true)
  | succ d ih =>
    intro i hi
    have h1 : i < l.length := by omega
    refine Ev.step (fun k => by rw [impl_allWithin.l0]) ?_
    refine evPos (by omega) (evPos (by omega) (evPos (by omega) ?_))
    rw [drop_get h1, rd_nat h1, within_f]
    simp only [Option.bind_some, allR, List.all_cons]
    cases inR l[i] lo up with
    | false => exact evNeg (by simp) (Ev.now false)
    | true =>
      refine evPos rfl ?_
      rw [w64 (by omega) (by omega)]
      exact ih (i + 1) (by omega)
theorem allWithin_f (l : List Int) (lo hi : Int) (hl : l.length ≤ maxLen) : Ev (fun k => impl_allWithin.f k l lo hi) (allR l lo hi) := by
  have := allWithin_l0 lo hi l hl l.length 0 (by omega)
  simpa [impl_allWithin.f] using this

/-! ### impl_isLevels: function 73 -/
def impl_isLevels.f (k : Nat) (l0 : List Int) : Option (Bool) := if (l0.length : Int) = 64 then ((impl_allWithin.f k l0 (-16383) 16383).bind fun t200 => (some t200)) else (some false)
theorem impl_isLevels.mono : ∀ a0 k, LeO (impl_isLevels.f k a0) (impl_isLevels.f (k + 1) a0) := by
  intro a0 k
  unfold impl_isLevels.f
  repeat' first
      | (with_reducible exact impl_allWithin.mono _ _ _ _)
      | (with_reducible exact LeO.refl _)
      | (with_reducible exact LeO.none _)
      | (with_reducible refine LeO.ite ?_ ?_)
      | (with_reducible refine LeO.bind ?_ (fun _ => ?_))
      | exact impl_allWithin.mono _ _ _ _
      | exact LeO.none _
      | refine LeO.ite ?_ ?_
      | refine LeO.bind ?_ (fun _ => ?_)
set_option maxHeartbeats 8000000 in
set_option maxRecDepth 100000 in
theorem impl_isLevels.calls (k : Nat) (A0 : Option Addr) (c0 : Nat) (l0 : List Int) (r : Bool) (w : World) (hr0 : Kd.C (Kd.int .i64) w A0 l0.length l0) (hc0 : l0.length ≤ c0) (h : impl_isLevels.f k l0 = some r) :
    Calls Try.prog 73 #[.slice A0 l0.length c0] w fun e w' => e = .returned (.bool r) ∧ Drawn0 w w' := by
  have HR0 := Aside0.mk hr0
  have HC0 := Aside0.mk hc0
  clear hr0 hc0
  have H : (if (l0.length : Int) = 64 then ((impl_allWithin.f k l0 (-16383) 16383).bind fun t200 => (some t200)) else (some false)) = some r := h
  clear h
  by_cases c2 : (l0.length : Int) = 64
  · rw [if_pos c2] at H
    have c2b0 : ((l0.length : Int) == 64) = true := beq_iff_eq.mpr c2
    have c2b1 : ((l0.length : Int) != 64) = false := bne_eq_false_iff_eq.mpr c2
    clear c2
    replace H := Option.bind_eq_some_iff.mp H
    obtain ⟨t200, A30, H⟩ := H
    replace H : (some t200) = some r := H
    have A3 := Aside0.mk A30
    clear A30
    obtain rfl := Option.some.inj H
    go_enter Try.func73, Try.ntmps73
    go_wp2_with (first | (go_at_call 111; (with_reducible refine (impl_allWithin.calls k _ _ l0 (-16383) 16383 t200 _ ?side1 ?side2 A3.out).mono ?_); (case side1 => repeat (first | exact HR0.out | (with_reducible refine Kd.C_alloc ?_ _) | (with_reducible refine Kd.C_drewN ?_ _) | (with_reducible refine Kd.C_drew ?_))); (case side2 => exact HC0.out); rintro e w' ⟨rfl, ⟨nd, rfl⟩⟩))
    go_ret
    exact ⟨by first | rfl | (simp; done) | (simp [*]; done), by repeat (first | exact Drawn0.refl _ | apply Drawn0.step)⟩
  · rw [if_neg c2] at H
    have c2b0 : ((l0.length : Int) == 64) = false := beq_eq_false_iff_ne.mpr c2
    have c2b1 : ((l0.length : Int) != 64) = true := bne_iff_ne.mpr c2
    obtain rfl := Option.some.inj H
    go_enter Try.func73, Try.ntmps73
    go_wp2
    go_ret
    exact ⟨by first | rfl | (simp; done) | (simp [*]; done), by repeat (first | exact Drawn0.refl _ | apply Drawn0.step)⟩

theorem isLevels_f (l : List Int) : Ev (fun k => impl_isLevels.f k l) (numsB l (-16383) 16383) := by
  unfold impl_isLevels.f numsB
  refine evIf (fun h => ?_) (fun h => ?_)
  · rw [decide_eq_true h, Bool.true_and]
    exact evBind (allWithin_f l _ _ (by unfold maxLen; omega)) (Ev.now _)
  · rw [decide_eq_false h, Bool.false_and]
    exact Ev.now _

/-! ### impl_Scan_isPass: function 74 -/
def impl_Scan_isPass.f (l0_0 : List Int) (a0_1 : Int) (a0_2 : Int) (a0_3 : Int) (a0_4 : Int) : Option (Bool) := (impl_within.f a0_2 0 63).bind fun t202 => (if t202 = true then ((impl_within.f a0_1 0 a0_2).bind fun t203 => (if t203 = true then ((impl_within.f a0_4 0 13).bind fun t204 => (if t204 = true then (if a0_3 = 0 then (some true) else (some (a0_3 == (wrap64 (a0_4 + 1))))) else (some false))) else (some false))) else (some false))
set_option maxHeartbeats 8000000 in
set_option maxRecDepth 100000 in
theorem impl_Scan_isPass.calls (A0_0 : Option Addr) (c0_0 : Nat) (l0_0 : List Int) (a0_1 : Int) (a0_2 : Int) (a0_3 : Int) (a0_4 : Int) (r : Bool) (w : World) (hr0_0 : Kd.C (Kd.int .i64) w A0_0 l0_0.length l0_0) (hc0_0 : l0_0.length ≤ c0_0) (h : impl_Scan_isPass.f l0_0 a0_1 a0_2 a0_3 a0_4 = some r) :
    Calls Try.prog 74 #[.agg #[.slice A0_0 l0_0.length c0_0, .int .i64 a0_1, .int .i64 a0_2, .int .i64 a0_3, .int .i64 a0_4]] w fun e w' => e = .returned (.bool r) ∧ Below w.heap.size w w' := by
  have hu28 := Try.underlying28
  have HR0_0 := Aside0.mk hr0_0
  have HC0_0 := Aside0.mk hc0_0
  clear hr0_0 hc0_0
  have HB := Aside0.mk (Below.refl w.heap.size w)
  have H : ((impl_within.f a0_2 0 63).bind fun t202 => (if t202 = true then ((impl_within.f a0_1 0 a0_2).bind fun t203 => (if t203 = true then ((impl_within.f a0_4 0 13).bind fun t204 => (if t204 = true then (if a0_3 = 0 then (some true) else (some (a0_3 == (wrap64 (a0_4 + 1))))) else (some false))) else (some false))) else (some false))) = some r := h
  clear h
  replace H := Option.bind_eq_some_iff.mp H
  obtain ⟨t202, A20, H⟩ := H
  replace H : (if t202 = true then ((impl_within.f a0_1 0 a0_2).bind fun t203 => (if t203 = true then ((impl_within.f a0_4 0 13).bind fun t204 => (if t204 = true then (if a0_3 = 0 then (some true) else (some (a0_3 == (wrap64 (a0_4 + 1))))) else (some false))) else (some false))) else (some false)) = some r := H
  have A2 := Aside0.mk A20
  clear A20
  by_cases c3 : t202 = true
  · subst c3
    have H1 : ((impl_within.f a0_1 0 a0_2).bind fun t203 => (if t203 = true then ((impl_within.f a0_4 0 13).bind fun t204 => (if t204 = true then (if a0_3 = 0 then (some true) else (some (a0_3 == (wrap64 (a0_4 + 1))))) else (some false))) else (some false))) = some r := by rw [if_pos rfl] at H; exact H
    clear H
    have H := H1
    clear H1
    replace H := Option.bind_eq_some_iff.mp H
    obtain ⟨t203, A40, H⟩ := H
    replace H : (if t203 = true then ((impl_within.f a0_4 0 13).bind fun t204 => (if t204 = true then (if a0_3 = 0 then (some true) else (some (a0_3 == (wrap64 (a0_4 + 1))))) else (some false))) else (some false)) = some r := H
    have A4 := Aside0.mk A40
    clear A40
    by_cases c5 : t203 = true
    · subst c5
      have H1 : ((impl_within.f a0_4 0 13).bind fun t204 => (if t204 = true then (if a0_3 = 0 then (some true) else (some (a0_3 == (wrap64 (a0_4 + 1))))) else (some false))) = some r := by rw [if_pos rfl] at H; exact H
      clear H
      have H := H1
      clear H1
      replace H := Option.bind_eq_some_iff.mp H
      obtain ⟨t204, A60, H⟩ := H
      replace H : (if t204 = true then (if a0_3 = 0 then (some true) else (some (a0_3 == (wrap64 (a0_4 + 1))))) else (some false)) = some r := H
      have A6 := Aside0.mk A60
      clear A60
      by_cases c7 : t204 = true
      · subst c7
        have H1 : (if a0_3 = 0 then (some true) else (some (a0_3 == (wrap64 (a0_4 + 1))))) = some r := by rw [if_pos rfl] at H; exact H
        clear H
        have H := H1
        clear H1
        by_cases c8 : a0_3 = 0
        · rw [if_pos c8] at H
          have c8b0 : (a0_3 == 0) = true := beq_iff_eq.mpr c8
          have c8b1 : (a0_3 != 0) = false := bne_eq_false_iff_eq.mpr c8
          clear c8
          obtain rfl := Option.some.inj H
          go_enter Try.func74, Try.ntmps74
          go_wp2_with (first | ((with_reducible refine gate_dst (N := 1) rfl ?_); refine box_event ?hg (N := 1) ?hd (cs := #[.slice A0_0 l0_0.length c0_0, .int .i64 a0_1, .int .i64 a0_2, .int .i64 a0_3, .int .i64 a0_4]) (t := 28) ?hr ?_; (case hd => rfl); (case hg => rfl); (case hr => first | (go_simp; done) | (go_simp; rfl)); intro gb201 hg w9 hbox hb; have n0_ := Aside0.mk (below_step (by repeat (first | (with_reducible first | exact HB.out | apply below_alloc | apply pw_below_drewN | apply below_drew1) | exact HB.out)) hb); have n1_ := Aside0.mk (hbox); have n2_ := Aside0.mk ((by rw [hg]; exact (below_size (by repeat (first | (with_reducible first | exact HB.out | apply below_alloc | apply pw_below_drewN | apply below_drew1) | exact HB.out))) : w.heap.size ≤ gb201)); have n3_ := Aside0.mk ((by rw [hg]; exact (below_size (by repeat (first | (with_reducible first | exact HB.out | apply below_alloc | apply pw_below_drewN | apply below_drew1) | exact HB.out))) : w.heap.size ≤ gb201)); clear HB; have HB := n0_; have BK201 := n1_; have GW201 := n2_; have GE201 := n3_; clear n0_ n1_ n2_ n3_; clear hb hbox hg; have hcz10_0 : w9.cell? ⟨gb201, 0, none⟩ = some (.slice A0_0 l0_0.length c0_0) := (blk_cell BK201.out 0).trans rfl; have hcz10_1 : w9.cell? ⟨gb201, 1, none⟩ = some (.int .i64 a0_1) := (blk_cell BK201.out 1).trans rfl; have hcz10_2 : w9.cell? ⟨gb201, 2, none⟩ = some (.int .i64 a0_2) := (blk_cell BK201.out 2).trans rfl; have hcz10_3 : w9.cell? ⟨gb201, 3, none⟩ = some (.int .i64 a0_3) := (blk_cell BK201.out 3).trans rfl; have hcz10_4 : w9.cell? ⟨gb201, 4, none⟩ = some (.int .i64 a0_4) := (blk_cell BK201.out 4).trans rfl; have hfz10_0 := blk_frozen BK201.out 0; have hfz10_1 := blk_frozen BK201.out 1; have hfz10_2 := blk_frozen BK201.out 2; have hfz10_3 := blk_frozen BK201.out 3; have hfz10_4 := blk_frozen BK201.out 4) | ((with_reducible refine gate_callee (f := 101) rfl ?_); refine goesL_ (some 5) rfl rfl Try.func101 (by kernel_rfl) rfl #[.int .i64 a0_2, .int .i64 0, .int .i64 63] rfl (by (try simp only [List.map_toArray, List.map_cons, List.map_nil]); first | done | rfl | (simp only [List.length_drop, List.length_take]; rfl)) ?_; (with_reducible refine (impl_within.calls a0_2 0 63 true _ A2.out).mono ?_); rintro e w' ⟨rfl, ⟨nd, rfl⟩⟩; refine ⟨_, rfl, ?_⟩) | (go_at_call 101; (with_reducible refine (impl_within.calls a0_1 0 a0_2 true _ A4.out).mono ?_); rintro e w' ⟨rfl, ⟨nd, rfl⟩⟩) | (go_at_call 101; (with_reducible refine (impl_within.calls a0_4 0 13 true _ A6.out).mono ?_); rintro e w' ⟨rfl, ⟨nd, rfl⟩⟩))
          go_ret
          exact ⟨by first | rfl | (simp [errW_none, errW_some] <;> rfl) | (simp [*, errW_none, errW_some] <;> rfl), by repeat (first | (with_reducible first | exact HB.out | apply below_alloc | apply pw_below_drewN | apply below_drew1 | refine below_set ?_ GE201.out) | exact HB.out)⟩
        · rw [if_neg c8] at H
          have c8b0 : (a0_3 == 0) = false := beq_eq_false_iff_ne.mpr c8
          have c8b1 : (a0_3 != 0) = true := bne_iff_ne.mpr c8
          obtain rfl := Option.some.inj H
          go_enter Try.func74, Try.ntmps74
          go_wp2_with (first | ((with_reducible refine gate_dst (N := 1) rfl ?_); refine box_event ?hg (N := 1) ?hd (cs := #[.slice A0_0 l0_0.length c0_0, .int .i64 a0_1, .int .i64 a0_2, .int .i64 a0_3, .int .i64 a0_4]) (t := 28) ?hr ?_; (case hd => rfl); (case hg => rfl); (case hr => first | (go_simp; done) | (go_simp; rfl)); intro gb201 hg w11 hbox hb; have n0_ := Aside0.mk (below_step (by repeat (first | (with_reducible first | exact HB.out | apply below_alloc | apply pw_below_drewN | apply below_drew1) | exact HB.out)) hb); have n1_ := Aside0.mk (hbox); have n2_ := Aside0.mk ((by rw [hg]; exact (below_size (by repeat (first | (with_reducible first | exact HB.out | apply below_alloc | apply pw_below_drewN | apply below_drew1) | exact HB.out))) : w.heap.size ≤ gb201)); have n3_ := Aside0.mk ((by rw [hg]; exact (below_size (by repeat (first | (with_reducible first | exact HB.out | apply below_alloc | apply pw_below_drewN | apply below_drew1) | exact HB.out))) : w.heap.size ≤ gb201)); clear HB; have HB := n0_; have BK201 := n1_; have GW201 := n2_; have GE201 := n3_; clear n0_ n1_ n2_ n3_; clear hb hbox hg; have hcz12_0 : w11.cell? ⟨gb201, 0, none⟩ = some (.slice A0_0 l0_0.length c0_0) := (blk_cell BK201.out 0).trans rfl; have hcz12_1 : w11.cell? ⟨gb201, 1, none⟩ = some (.int .i64 a0_1) := (blk_cell BK201.out 1).trans rfl; have hcz12_2 : w11.cell? ⟨gb201, 2, none⟩ = some (.int .i64 a0_2) := (blk_cell BK201.out 2).trans rfl; have hcz12_3 : w11.cell? ⟨gb201, 3, none⟩ = some (.int .i64 a0_3) := (blk_cell BK201.out 3).trans rfl; have hcz12_4 : w11.cell? ⟨gb201, 4, none⟩ = some (.int .i64 a0_4) := (blk_cell BK201.out 4).trans rfl; have hfz12_0 := blk_frozen BK201.out 0; have hfz12_1 := blk_frozen BK201.out 1; have hfz12_2 := blk_frozen BK201.out 2; have hfz12_3 := blk_frozen BK201.out 3; have hfz12_4 := blk_frozen BK201.out 4) | ((with_reducible refine gate_callee (f := 101) rfl ?_); refine goesL_ (some 5) rfl rfl Try.func101 (by kernel_rfl) rfl #[.int .i64 a0_2, .int .i64 0, .int .i64 63] rfl (by (try simp only [List.map_toArray, List.map_cons, List.map_nil]); first | done | rfl | (simp only [List.length_drop, List.length_take]; rfl)) ?_; (with_reducible refine (impl_within.calls a0_2 0 63 true _ A2.out).mono ?_); rintro e w' ⟨rfl, ⟨nd, rfl⟩⟩; refine ⟨_, rfl, ?_⟩) | (go_at_call 101; (with_reducible refine (impl_within.calls a0_1 0 a0_2 true _ A4.out).mono ?_); rintro e w' ⟨rfl, ⟨nd, rfl⟩⟩) | (go_at_call 101; (with_reducible refine (impl_within.calls a0_4 0 13 true _ A6.out).mono ?_); rintro e w' ⟨rfl, ⟨nd, rfl⟩⟩))
          go_ret
          exact ⟨by first | rfl | (simp [errW_none, errW_some] <;> rfl) | (simp [*, errW_none, errW_some] <;> rfl), by repeat (first | (with_reducible first | exact HB.out | apply below_alloc | apply pw_below_drewN | apply below_drew1 | refine below_set ?_ GE201.out) | exact HB.out)⟩
      · replace c7 := Bool.eq_false_iff.mpr c7
        subst c7
        have H1 : (some false) = some r := by rw [if_neg (show ¬ (false = true) by decide)] at H; exact H
        clear H
        have H := H1
        clear H1
        obtain rfl := Option.some.inj H
        go_enter Try.func74, Try.ntmps74
        go_wp2_with (first | ((with_reducible refine gate_dst (N := 1) rfl ?_); refine box_event ?hg (N := 1) ?hd (cs := #[.slice A0_0 l0_0.length c0_0, .int .i64 a0_1, .int .i64 a0_2, .int .i64 a0_3, .int .i64 a0_4]) (t := 28) ?hr ?_; (case hd => rfl); (case hg => rfl); (case hr => first | (go_simp; done) | (go_simp; rfl)); intro gb201 hg w13 hbox hb; have n0_ := Aside0.mk (below_step (by repeat (first | (with_reducible first | exact HB.out | apply below_alloc | apply pw_below_drewN | apply below_drew1) | exact HB.out)) hb); have n1_ := Aside0.mk (hbox); have n2_ := Aside0.mk ((by rw [hg]; exact (below_size (by repeat (first | (with_reducible first | exact HB.out | apply below_alloc | apply pw_below_drewN | apply below_drew1) | exact HB.out))) : w.heap.size ≤ gb201)); have n3_ := Aside0.mk ((by rw [hg]; exact (below_size (by repeat (first | (with_reducible first | exact HB.out | apply below_alloc | apply pw_below_drewN | apply below_drew1) | exact HB.out))) : w.heap.size ≤ gb201)); clear HB; have HB := n0_; have BK201 := n1_; have GW201 := n2_; have GE201 := n3_; clear n0_ n1_ n2_ n3_; clear hb hbox hg; have hcz14_0 : w13.cell? ⟨gb201, 0, none⟩ = some (.slice A0_0 l0_0.length c0_0) := (blk_cell BK201.out 0).trans rfl; have hcz14_1 : w13.cell? ⟨gb201, 1, none⟩ = some (.int .i64 a0_1) := (blk_cell BK201.out 1).trans rfl; have hcz14_2 : w13.cell? ⟨gb201, 2, none⟩ = some (.int .i64 a0_2) := (blk_cell BK201.out 2).trans rfl; have hcz14_3 : w13.cell? ⟨gb201, 3, none⟩ = some (.int .i64 a0_3) := (blk_cell BK201.out 3).trans rfl; have hcz14_4 : w13.cell? ⟨gb201, 4, none⟩ = some (.int .i64 a0_4) := (blk_cell BK201.out 4).trans rfl; have hfz14_0 := blk_frozen BK201.out 0; have hfz14_1 := blk_frozen BK201.out 1; have hfz14_2 := blk_frozen BK201.out 2; have hfz14_3 := blk_frozen BK201.out 3; have hfz14_4 := blk_frozen BK201.out 4) | ((with_reducible refine gate_callee (f := 101) rfl ?_); refine goesL_ (some 5) rfl rfl Try.func101 (by kernel_rfl) rfl #[.int .i64 a0_2, .int .i64 0, .int .i64 63] rfl (by (try simp only [List.map_toArray, List.map_cons, List.map_nil]); first | done | rfl | (simp only [List.length_drop, List.length_take]; rfl)) ?_; (with_reducible refine (impl_within.calls a0_2 0 63 true _ A2.out).mono ?_); rintro e w' ⟨rfl, ⟨nd, rfl⟩⟩; refine ⟨_, rfl, ?_⟩) | (go_at_call 101; (with_reducible refine (impl_within.calls a0_1 0 a0_2 true _ A4.out).mono ?_); rintro e w' ⟨rfl, ⟨nd, rfl⟩⟩) | (go_at_call 101; (with_reducible refine (impl_within.calls a0_4 0 13 false _ A6.out).mono ?_); rintro e w' ⟨rfl, ⟨nd, rfl⟩⟩))
        go_ret
        exact ⟨by first | rfl | (simp [errW_none, errW_some] <;> rfl) | (simp [*, errW_none, errW_some] <;> rfl), by repeat (first | (with_reducible first | exact HB.out | apply below_alloc | apply pw_below_drewN | apply below_drew1 | refine below_set ?_ GE201.out) | exact HB.out)⟩
    · replace c5 := Bool.eq_false_iff.mpr c5
      subst c5
      have H1 : (some false) = some r := by rw [if_neg (show ¬ (false = true) by decide)] at H; exact H
      clear H
      have H := H1
      clear H1
      obtain rfl := Option.some.inj H
      go_enter Try.func74, Try.ntmps74
      go_wp2_with (first | ((with_reducible refine gate_dst (N := 1) rfl ?_); refine box_event ?hg (N := 1) ?hd (cs := #[.slice A0_0 l0_0.length c0_0, .int .i64 a0_1, .int .i64 a0_2, .int .i64 a0_3, .int .i64 a0_4]) (t := 28) ?hr ?_; (case hd => rfl); (case hg => rfl); (case hr => first | (go_simp; done) | (go_simp; rfl)); intro gb201 hg w15 hbox hb; have n0_ := Aside0.mk (below_step (by repeat (first | (with_reducible first | exact HB.out | apply below_alloc | apply pw_below_drewN | apply below_drew1) | exact HB.out)) hb); have n1_ := Aside0.mk (hbox); have n2_ := Aside0.mk ((by rw [hg]; exact (below_size (by repeat (first | (with_reducible first | exact HB.out | apply below_alloc | apply pw_below_drewN | apply below_drew1) | exact HB.out))) : w.heap.size ≤ gb201)); have n3_ := Aside0.mk ((by rw [hg]; exact (below_size (by repeat (first | (with_reducible first | exact HB.out | apply below_alloc | apply pw_below_drewN | apply below_drew1) | exact HB.out))) : w.heap.size ≤ gb201)); clear HB; have HB := n0_; have BK201 := n1_; have GW201 := n2_; have GE201 := n3_; clear n0_ n1_ n2_ n3_; clear hb hbox hg; have hcz16_0 : w15.cell? ⟨gb201, 0, none⟩ = some (.slice A0_0 l0_0.length c0_0) := (blk_cell BK201.out 0).trans rfl; have hcz16_1 : w15.cell? ⟨gb201, 1, none⟩ = some (.int .i64 a0_1) := (blk_cell BK201.out 1).trans rfl; have hcz16_2 : w15.cell? ⟨gb201, 2, none⟩ = some (.int .i64 a0_2) := (blk_cell BK201.out 2).trans rfl; have hcz16_3 : w15.cell? ⟨gb201, 3, none⟩ = some (.int .i64 a0_3) := (blk_cell BK201.out 3).trans rfl; have hcz16_4 : w15.cell? ⟨gb201, 4, none⟩ = some (.int .i64 a0_4) := (blk_cell BK201.out 4).trans rfl; have hfz16_0 := blk_frozen BK201.out 0; have hfz16_1 := blk_frozen BK201.out 1; have hfz16_2 := blk_frozen BK201.out 2; have hfz16_3 := blk_frozen BK201.out 3; have hfz16_4 := blk_frozen BK201.out 4) | ((with_reducible refine gate_callee (f := 101) rfl ?_); refine goesL_ (some 5) rfl rfl Try.func101 (by kernel_rfl) rfl #[.int .i64 a0_2, .int .i64 0, .int .i64 63] rfl (by (try simp only [List.map_toArray, List.map_cons, List.map_nil]); first | done | rfl | (simp only [List.length_drop, List.length_take]; rfl)) ?_; (with_reducible refine (impl_within.calls a0_2 0 63 true _ A2.out).mono ?_); rintro e w' ⟨rfl, ⟨nd, rfl⟩⟩; refine ⟨_, rfl, ?_⟩) | (go_at_call 101; (with_reducible refine (impl_within.calls a0_1 0 a0_2 false _ A4.out).mono ?_); rintro e w' ⟨rfl, ⟨nd, rfl⟩⟩))
      go_ret
      exact ⟨by first | rfl | (simp [errW_none, errW_some] <;> rfl) | (simp [*, errW_none, errW_some] <;> rfl), by repeat (first | (with_reducible first | exact HB.out | apply below_alloc | apply pw_below_drewN | apply below_drew1 | refine below_set ?_ GE201.out) | exact HB.out)⟩
  · replace c3 := Bool.eq_false_iff.mpr c3
    subst c3
    have H1 : (some false) = some r := by rw [if_neg (show ¬ (false = true) by decide)] at H; exact H
    clear H
    have H := H1
    clear H1
    obtain rfl := Option.some.inj H
    go_enter Try.func74, Try.ntmps74
    go_wp2_with (first | ((with_reducible refine gate_dst (N := 1) rfl ?_); refine box_event ?hg (N := 1) ?hd (cs := #[.slice A0_0 l0_0.length c0_0, .int .i64 a0_1, .int .i64 a0_2, .int .i64 a0_3, .int .i64 a0_4]) (t := 28) ?hr ?_; (case hd => rfl); (case hg => rfl); (case hr => first | (go_simp; done) | (go_simp; rfl)); intro gb201 hg w17 hbox hb; have n0_ := Aside0.mk (below_step (by repeat (first | (with_reducible first | exact HB.out | apply below_alloc | apply pw_below_drewN | apply below_drew1) | exact HB.out)) hb); have n1_ := Aside0.mk (hbox); have n2_ := Aside0.mk ((by rw [hg]; exact (below_size (by repeat (first | (with_reducible first | exact HB.out | apply below_alloc | apply pw_below_drewN | apply below_drew1) | exact HB.out))) : w.heap.size ≤ gb201)); have n3_ := Aside0.mk ((by rw [hg]; exact (below_size (by repeat (first | (with_reducible first | exact HB.out | apply below_alloc | apply pw_below_drewN | apply below_drew1) | exact HB.out))) : w.heap.size ≤ gb201)); clear HB; have HB := n0_; have BK201 := n1_; have GW201 := n2_; have GE201 := n3_; clear n0_ n1_ n2_ n3_; clear hb hbox hg; have hcz18_0 : w17.cell? ⟨gb201, 0, none⟩ = some (.slice A0_0 l0_0.length c0_0) := (blk_cell BK201.out 0).trans rfl; have hcz18_1 : w17.cell? ⟨gb201, 1, none⟩ = some (.int .i64 a0_1) := (blk_cell BK201.out 1).trans rfl; have hcz18_2 : w17.cell? ⟨gb201, 2, none⟩ = some (.int .i64 a0_2) := (blk_cell BK201.out 2).trans rfl; have hcz18_3 : w17.cell? ⟨gb201, 3, none⟩ = some (.int .i64 a0_3) := (blk_cell BK201.out 3).trans rfl; have hcz18_4 : w17.cell? ⟨gb201, 4, none⟩ = some (.int .i64 a0_4) := (blk_cell BK201.out 4).trans rfl; have hfz18_0 := blk_frozen BK201.out 0; have hfz18_1 := blk_frozen BK201.out 1; have hfz18_2 := blk_frozen BK201.out 2; have hfz18_3 := blk_frozen BK201.out 3; have hfz18_4 := blk_frozen BK201.out 4) | ((with_reducible refine gate_callee (f := 101) rfl ?_); refine goesL_ (some 5) rfl rfl Try.func101 (by kernel_rfl) rfl #[.int .i64 a0_2, .int .i64 0, .int .i64 63] rfl (by (try simp only [List.map_toArray, List.map_cons, List.map_nil]); first | done | rfl | (simp only [List.length_drop, List.length_take]; rfl)) ?_; (with_reducible refine (impl_within.calls a0_2 0 63 false _ A2.out).mono ?_); rintro e w' ⟨rfl, ⟨nd, rfl⟩⟩; refine ⟨_, rfl, ?_⟩))
    go_ret
    exact ⟨by first | rfl | (simp [errW_none, errW_some] <;> rfl) | (simp [*, errW_none, errW_some] <;> rfl), by repeat (first | (with_reducible first | exact HB.out | apply below_alloc | apply pw_below_drewN | apply below_drew1 | refine below_set ?_ GE201.out) | exact HB.out)⟩

theorem isPass_f (c : List Int) (f t h l : Int) : impl_Scan_isPass.f c f t h l = some (passB f t h l) := by
  simp only [impl_Scan_isPass.f, within_f, Option.bind_some, passB]
  by_cases h0 : inR f 0 t = true
  · have h01 := inR_iff.1 h0
    by_cases h1 : t ≤ 63
    · have h2 : inR t 0 63 = true := inR_iff.2 ⟨by omega, h1⟩
      rw [if_pos h2, if_pos h0, h0, decide_eq_true h1]
      cases inR l 0 13 <;> by_cases h3 : h = 0 <;> simp [h3]
    · have h2 : ¬ inR t 0 63 = true := fun h => h1 (inR_iff.1 h).2
      rw [if_neg h2, decide_eq_false h1]
      simp
  · rw [Bool.eq_false_iff.2 h0]
    cases inR t 0 63 <;> simp

/-! ### impl_zigZag: function 118 -/
mutual
def impl_zigZag.l0 : Nat → List Int → Int → Option (List Int)
  | 0, _, _ => none
  | k + 1, x1, x7 => if x7 < 15 then (impl_zigZag.l1 k x1 x7 x7 (wrap64 (x7 + 1)) 0) else (some x1)
def impl_zigZag.l1 : Nat → List Int → Int → Int → Int → Int → Option (List Int)
  | 0, _, _, _, _, _ => none
  | k + 1, x1, x2, x7, x11, x12 => if x12 < x11 then (if (Int.tmod x2 2) = 0 then (if (wrap64 (x2 - x12)) < 8 then (if (wrap64 (x2 - (wrap64 (x2 - x12)))) < 8 then (if x1.length < 17592186044416 then (impl_zigZag.l1 k (x1 ++ [wrap64 ((wrap64 (8 * (wrap64 (x2 - x12)))) + (wrap64 (x2 - (wrap64 (x2 - x12)))))]) x2 x7 x11 (wrap64 (x12 + 1))) else (none)) else (impl_zigZag.l1 k x1 x2 x7 x11 (wrap64 (x12 + 1)))) else (impl_zigZag.l1 k x1 x2 x7 x11 (wrap64 (x12 + 1)))) else (if x12 < 8 then (if (wrap64 (x2 - x12)) < 8 then (if x1.length < 17592186044416 then (impl_zigZag.l1 k (x1 ++ [wrap64 ((wrap64 (8 * x12)) + (wrap64 (x2 - x12)))]) x2 x7 x11 (wrap64 (x12 + 1))) else (none)) else (impl_zigZag.l1 k x1 x2 x7 x11 (wrap64 (x12 + 1)))) else (impl_zigZag.l1 k x1 x2 x7 x11 (wrap64 (x12 + 1))))) else (impl_zigZag.l0 k x1 (wrap64 (x7 + 1)))
end
def impl_zigZag.f (k : Nat)  : Option (List Int) := impl_zigZag.l0 k (([] : List Int)) 0
theorem impl_zigZag.mono_l : ∀ k, (∀ y0 y1, LeO (impl_zigZag.l0 k y0 y1) (impl_zigZag.l0 (k + 1) y0 y1)) ∧ (∀ y0 y1 y2 y3 y4, LeO (impl_zigZag.l1 k y0 y1 y2 y3 y4) (impl_zigZag.l1 (k + 1) y0 y1 y2 y3 y4))
  | 0 => ⟨fun _ _ r h => by simp [impl_zigZag.l0] at h, fun _ _ _ _ _ r h => by simp [impl_zigZag.l1] at h⟩
  | k + 1 => by
    obtain ⟨ih0, ih1⟩ := impl_zigZag.mono_l k
    refine ⟨?_, ?_⟩
    · intro y0 y1
      unfold impl_zigZag.l0
      repeat' first
      | (with_reducible exact ih0 _ _)
      | (with_reducible exact ih1 _ _ _ _ _)
      | (with_reducible exact LeO.refl _)
      | (with_reducible exact LeO.none _)
      | (with_reducible refine LeO.ite ?_ ?_)
      | (with_reducible refine LeO.bind ?_ (fun _ => ?_))
      | exact ih0 _ _
      | exact ih1 _ _ _ _ _
      | exact LeO.none _
      | refine LeO.ite ?_ ?_
      | refine LeO.bind ?_ (fun _ => ?_)
    · intro y0 y1 y2 y3 y4
      unfold impl_zigZag.l1
      repeat' first
      | (with_reducible exact ih0 _ _)
      | (with_reducible exact ih1 _ _ _ _ _)
      | (with_reducible exact LeO.refl _)
      | (with_reducible exact LeO.none _)
      | (with_reducible refine LeO.ite ?_ ?_)
      | (with_reducible refine LeO.bind ?_ (fun _ => ?_))
      | exact ih0 _ _
      | exact ih1 _ _ _ _ _
      | exact LeO.none _
      | refine LeO.ite ?_ ?_
      | refine LeO.bind ?_ (fun _ => ?_)
theorem impl_zigZag.mono : ∀ k, LeO (impl_zigZag.f k ) (impl_zigZag.f (k + 1) ) := by
  intro  k
  obtain ⟨ih0, ih1⟩ := impl_zigZag.mono_l k
  unfold impl_zigZag.f
  repeat' first
      | (with_reducible exact ih0 _ _)
      | (with_reducible exact ih1 _ _ _ _ _)
      | (with_reducible exact LeO.refl _)
      | (with_reducible exact LeO.none _)
      | (with_reducible refine LeO.ite ?_ ?_)
      | (with_reducible refine LeO.bind ?_ (fun _ => ?_))
      | exact ih0 _ _
      | exact ih1 _ _ _ _ _
      | exact LeO.none _
      | refine LeO.ite ?_ ?_
      | refine LeO.bind ?_ (fun _ => ?_)
set_option maxHeartbeats 8000000 in
set_option maxRecDepth 100000 in
theorem impl_zigZag.calls (k : Nat)  (r : List Int) (w : World) (h : impl_zigZag.f k  = some r) :
    Calls Try.prog 118 #[] w fun e w' => ∃ v0_ : Value, e = .returned (v0_) ∧ Kd.R (Kd.int .i64) 3 w' w.heap.size (fun _ => True) v0_ r ∧ Below w.heap.size w w' := by
  have HB := Aside0.mk (Below.refl w.heap.size w)
  have H : (impl_zigZag.l0 k (([] : List Int)) 0) = some r := h
  clear h
  obtain ⟨y205, hy205⟩ : ∃ y_ : List Int, y_ = (([] : List Int)) := ⟨_, rfl⟩
  replace H : (impl_zigZag.l0 k y205 0) = some r := by first | (rw [hy205]; with_reducible exact H) | (have H2_ := (Option.bind_some _ _).symm.trans H; rw [hy205]; with_reducible exact H2_) | (have H2_ := (Option.bind_some _ _).symm.trans H; with_reducible exact H2_) | with_reducible exact H | (rw [hy205]; exact H) | exact H
  have Ny205 := Aside0.mk hy205
  clear hy205
  have H' := Aside0.mk H
  clear H
  go_enter Try.func118, Try.ntmps118
  go_wp2_with (first | ((with_reducible refine gate_dst (N := 6) rfl ?_); refine Kd.R_lit (Kd.int .i64) _ 3 ?hg (N := 6) ?hd (xs := ([] : List Int)) (inner := []) (ok := fun _ => True) (okp := fun _ => True) ?hr ?hp (fun _ hk => hk) trivial (Below.refl _ _) (Nat.le_refl _) (by simp) ?_; (case hd => rfl); (case hg => rfl); (case hr => first | (go_simp; done) | (go_simp; rfl)); (case hp => exact (Reps.none _ _)); intro v206 w1 ho2 hb hg_ hnew_; clear hg_ hnew_; (first | rw [← Ny205.out] at ho2 | (simp only [Int.reduceToNat] at ho2; rw [← Ny205.out] at ho2)); have n0_ := Aside0.mk (Kd.R_lower ho2 (below_size (by repeat (first | (with_reducible first | exact HB.out | apply below_alloc | apply pw_below_drewN | apply below_drew1) | exact HB.out)))); have n1_ := Aside0.mk (below_step (by repeat (first | (with_reducible first | exact HB.out | apply below_alloc | apply pw_below_drewN | apply below_drew1) | exact HB.out)) hb); clear HB; have HO207 := n0_; have HB := n1_; clear n0_ n1_; clear hb ho2))
  go_loopg [1, 7] k (fun kq v1 v7 w' => ∃ (x1_1 : List Int) (x7_1 : Int), v7 = .int .i64 x7_1 ∧ Aside0 (impl_zigZag.l0 kq x1_1 x7_1 = some r) ∧ Aside0 (kq ≤ k) ∧ Aside0 (Kd.R (Kd.int .i64) 3 w' w.heap.size (fun _ => True) v1 x1_1) ∧ Aside0 (Below w.heap.size w w'))
  case atStart => exact ⟨(y205), (0), (by first | rfl | (simp; done) | (simp [*]; done)), H', ⟨Nat.le_refl _⟩, ⟨by (with_reducible repeat (first | apply Kd.R_alloc | apply Kd.R_drewN | apply Kd.R_drew)); exact HO207.out⟩, ⟨by repeat (first | (with_reducible first | exact HB.out | apply below_alloc | apply pw_below_drewN | apply below_drew1) | exact HB.out)⟩⟩
  case round =>
    clear H'
    try clear c1
    try clear p2
    obtain ⟨x1_1, x7_1, rfl, HA, HK1, HO_1, HB⟩ := hrel
    cases gk with
    | zero => exact absurd HA.out (by simp [impl_zigZag.l0])
    | succ k1 =>
      have H := HA.out
      clear HA
      simp only [impl_zigZag.l0] at H
      by_cases c3 : x7_1 < 15
      · rw [if_pos c3] at H
        have c3b0 : decide (x7_1 < 15) = true := decide_eq_true c3
        clear c3
        have H' := Aside0.mk H
        clear H
        go_wp2
        go_loopg [1, 12] k1 (fun kq v1 v12 w' => ∃ (x1_2 : List Int) (x12_2 : Int), v12 = .int .i64 x12_2 ∧ Aside0 (impl_zigZag.l1 kq x1_2 x7_1 x7_1 (wrap64 (x7_1 + 1)) x12_2 = some r) ∧ Aside0 (kq ≤ k1) ∧ Aside0 (Kd.R (Kd.int .i64) 3 w' w.heap.size (fun _ => True) v1 x1_2) ∧ Aside0 (Below w.heap.size w w'))
        case atStart => exact ⟨(x1_1), (0), (by first | rfl | (simp; done) | (simp [*]; done)), H', ⟨Nat.le_refl _⟩, ⟨by (with_reducible repeat (first | apply Kd.R_alloc | apply Kd.R_drewN | apply Kd.R_drew)); exact HO_1.out⟩, ⟨by repeat (first | (with_reducible first | exact HB.out | apply below_alloc | apply pw_below_drewN | apply below_drew1) | exact HB.out)⟩⟩
        case round =>
          clear H'
          try clear c1
          try clear p2
          try clear c3
          try clear c3b0
          try clear p2
          obtain ⟨x1_2, x12_2, rfl, HA, HK2, HO_1, HB⟩ := hrel
          cases gk with
          | zero => exact absurd HA.out (by simp [impl_zigZag.l1])
          | succ k2 =>
            have H := HA.out
            clear HA
            simp only [impl_zigZag.l1] at H
            by_cases c4 : x12_2 < (wrap64 (x7_1 + 1))
            · rw [if_pos c4] at H
              have c4b0 : decide (x12_2 < (wrap64 (x7_1 + 1))) = true := decide_eq_true c4
              clear c4
              by_cases c5 : (Int.tmod x7_1 2) = 0
              · rw [if_pos c5] at H
                have c5b0 : ((Int.tmod x7_1 2) == 0) = true := beq_iff_eq.mpr c5
                have c5b1 : ((Int.tmod x7_1 2) != 0) = false := bne_eq_false_iff_eq.mpr c5
                clear c5
                by_cases c6 : (wrap64 (x7_1 - x12_2)) < 8
                · rw [if_pos c6] at H
                  have c6b0 : decide ((wrap64 (x7_1 - x12_2)) < 8) = true := decide_eq_true c6
                  clear c6
                  by_cases c7 : (wrap64 (x7_1 - (wrap64 (x7_1 - x12_2)))) < 8
                  · rw [if_pos c7] at H
                    have c7b0 : decide ((wrap64 (x7_1 - (wrap64 (x7_1 - x12_2)))) < 8) = true := decide_eq_true c7
                    clear c7
                    by_cases c8 : x1_2.length < 17592186044416
                    · rw [if_pos c8] at H
                      have LMc8 := Aside0.mk c8
                      clear c8
                      obtain ⟨y208, hy208⟩ : ∃ y_ : List Int, y_ = (x1_2 ++ [wrap64 ((wrap64 (8 * (wrap64 (x7_1 - x12_2)))) + (wrap64 (x7_1 - (wrap64 (x7_1 - x12_2)))))]) := ⟨_, rfl⟩
                      replace H : (impl_zigZag.l1 k2 y208 x7_1 x7_1 (wrap64 (x7_1 + 1)) (wrap64 (x12_2 + 1))) = some r := by first | (rw [hy208]; with_reducible exact H) | (have H2_ := (Option.bind_some _ _).symm.trans H; rw [hy208]; with_reducible exact H2_) | (have H2_ := (Option.bind_some _ _).symm.trans H; with_reducible exact H2_) | with_reducible exact H | (rw [hy208]; exact H) | exact H
                      have Ny208 := Aside0.mk hy208
                      clear hy208
                      have H' := Aside0.mk H
                      clear H
                      go_wp2_with (first | ((with_reducible refine gate_builtin (b := .append) (xs := #[.tmp 31, .tmp 36]) rfl ?_); at_builtin; refine Kd.R_append (Kd.int .i64) (w0 := w) w.heap.size rfl (.tmp 31) (.tmp 36) 22 3 (.int .i64 0) 8 rfl Try.underlying22 info3 rfl (by decide) (by omega) u1 x1_2 (wrap64 ((wrap64 (8 * (wrap64 (x7_1 - x12_2)))) + (wrap64 (x7_1 - (wrap64 (x7_1 - x12_2)))))) [.int .i64 (wrap64 ((wrap64 (8 * (wrap64 (x7_1 - x12_2)))) + (wrap64 (x7_1 - (wrap64 (x7_1 - x12_2))))))] (fun _ => True) (fun _ => False) rfl rfl ?aP (fun _ hk => hk.elim) ?aF ?aO ?aB ?aS ?aL ?_; (case aP => exact rfl); (case aB => exact (by repeat (first | (with_reducible first | exact HB.out | apply below_alloc | apply pw_below_drewN | apply below_drew1) | exact HB.out))); (case aF => exact (fun _ _ => trivial)); (case aO => exact (by (with_reducible repeat (first | apply Kd.R_alloc | apply Kd.R_drewN | apply Kd.R_drew)); exact HO_1.out)); (case aS => exact (below_size (by repeat (first | (with_reducible first | exact HB.out | apply below_alloc | apply pw_below_drewN | apply below_drew1) | exact HB.out)))); (case aL => have := LMc8.out; omega); intro v209 w9 ho hb hg hat; rw [← Ny208.out] at ho; have n0_ := Aside0.mk (hb); have n1_ := Aside0.mk (ho); clear HB; clear HO_1; have HB := n0_; have HO210 := n1_; clear n0_ n1_; clear ho hb hg hat))
                      go_roundg k2
                      case measure => have := HK1.out; have := HK2.out; omega
                      case rel => exact ⟨(y208), (wrap64 (x12_2 + 1)), (by first | rfl | (simp; done) | (simp [*]; done)), H', ⟨by have := HK1.out; have := HK2.out; omega⟩, ⟨by (with_reducible repeat (first | apply Kd.R_alloc | apply Kd.R_drewN | apply Kd.R_drew)); exact HO210.out⟩, ⟨by repeat (first | (with_reducible first | exact HB.out | apply below_alloc | apply pw_below_drewN | apply below_drew1) | exact HB.out)⟩⟩
                    · rw [if_neg c8] at H
                      exact absurd H (by simp)
                  · rw [if_neg c7] at H
                    have c7b0 : decide ((wrap64 (x7_1 - (wrap64 (x7_1 - x12_2)))) < 8) = false := decide_eq_false c7
                    clear c7
                    have H' := Aside0.mk H
                    clear H
                    go_wp2
                    go_roundg k2
                    case measure => have := HK1.out; have := HK2.out; omega
                    case rel => exact ⟨(x1_2), (wrap64 (x12_2 + 1)), (by first | rfl | (simp; done) | (simp [*]; done)), H', ⟨by have := HK1.out; have := HK2.out; omega⟩, ⟨by (with_reducible repeat (first | apply Kd.R_alloc | apply Kd.R_drewN | apply Kd.R_drew)); exact HO_1.out⟩, ⟨by repeat (first | (with_reducible first | exact HB.out | apply below_alloc | apply pw_below_drewN | apply below_drew1) | exact HB.out)⟩⟩
                · rw [if_neg c6] at H
                  have c6b0 : decide ((wrap64 (x7_1 - x12_2)) < 8) = false := decide_eq_false c6
                  clear c6
                  have H' := Aside0.mk H
                  clear H
                  go_wp2
                  go_roundg k2
                  case measure => have := HK1.out; have := HK2.out; omega
                  case rel => exact ⟨(x1_2), (wrap64 (x12_2 + 1)), (by first | rfl | (simp; done) | (simp [*]; done)), H', ⟨by have := HK1.out; have := HK2.out; omega⟩, ⟨by (with_reducible repeat (first | apply Kd.R_alloc | apply Kd.R_drewN | apply Kd.R_drew)); exact HO_1.out⟩, ⟨by repeat (first | (with_reducible first | exact HB.out | apply below_alloc | apply pw_below_drewN | apply below_drew1) | exact HB.out)⟩⟩
              · rw [if_neg c5] at H
                have c5b0 : ((Int.tmod x7_1 2) == 0) = false := beq_eq_false_iff_ne.mpr c5
                have c5b1 : ((Int.tmod x7_1 2) != 0) = true := bne_iff_ne.mpr c5
                by_cases c10 : x12_2 < 8
                · rw [if_pos c10] at H
                  have c10b0 : decide (x12_2 < 8) = true := decide_eq_true c10
                  clear c10
                  by_cases c11 : (wrap64 (x7_1 - x12_2)) < 8
                  · rw [if_pos c11] at H
                    have c11b0 : decide ((wrap64 (x7_1 - x12_2)) < 8) = true := decide_eq_true c11
                    clear c11
                    by_cases c12 : x1_2.length < 17592186044416
                    · rw [if_pos c12] at H
                      have LMc12 := Aside0.mk c12
                      clear c12
                      obtain ⟨y211, hy211⟩ : ∃ y_ : List Int, y_ = (x1_2 ++ [wrap64 ((wrap64 (8 * x12_2)) + (wrap64 (x7_1 - x12_2)))]) := ⟨_, rfl⟩
                      replace H : (impl_zigZag.l1 k2 y211 x7_1 x7_1 (wrap64 (x7_1 + 1)) (wrap64 (x12_2 + 1))) = some r := by first | (rw [hy211]; with_reducible exact H) | (have H2_ := (Option.bind_some _ _).symm.trans H; rw [hy211]; with_reducible exact H2_) | (have H2_ := (Option.bind_some _ _).symm.trans H; with_reducible exact H2_) | with_reducible exact H | (rw [hy211]; exact H) | exact H
                      have Ny211 := Aside0.mk hy211
                      clear hy211
                      have H' := Aside0.mk H
                      clear H
                      go_wp2_with (first | ((with_reducible refine gate_builtin (b := .append) (xs := #[.tmp 31, .tmp 36]) rfl ?_); at_builtin; refine Kd.R_append (Kd.int .i64) (w0 := w) w.heap.size rfl (.tmp 31) (.tmp 36) 22 3 (.int .i64 0) 8 rfl Try.underlying22 info3 rfl (by decide) (by omega) u1 x1_2 (wrap64 ((wrap64 (8 * x12_2)) + (wrap64 (x7_1 - x12_2)))) [.int .i64 (wrap64 ((wrap64 (8 * x12_2)) + (wrap64 (x7_1 - x12_2))))] (fun _ => True) (fun _ => False) rfl rfl ?aP (fun _ hk => hk.elim) ?aF ?aO ?aB ?aS ?aL ?_; (case aP => exact rfl); (case aB => exact (by repeat (first | (with_reducible first | exact HB.out | apply below_alloc | apply pw_below_drewN | apply below_drew1) | exact HB.out))); (case aF => exact (fun _ _ => trivial)); (case aO => exact (by (with_reducible repeat (first | apply Kd.R_alloc | apply Kd.R_drewN | apply Kd.R_drew)); exact HO_1.out)); (case aS => exact (below_size (by repeat (first | (with_reducible first | exact HB.out | apply below_alloc | apply pw_below_drewN | apply below_drew1) | exact HB.out)))); (case aL => have := LMc12.out; omega); intro v212 w13 ho hb hg hat; rw [← Ny211.out] at ho; have n0_ := Aside0.mk (hb); have n1_ := Aside0.mk (ho); clear HB; clear HO_1; have HB := n0_; have HO213 := n1_; clear n0_ n1_; clear ho hb hg hat))
                      go_roundg k2
                      case measure => have := HK1.out; have := HK2.out; omega
                      case rel => exact ⟨(y211), (wrap64 (x12_2 + 1)), (by first | rfl | (simp; done) | (simp [*]; done)), H', ⟨by have := HK1.out; have := HK2.out; omega⟩, ⟨by (with_reducible repeat (first | apply Kd.R_alloc | apply Kd.R_drewN | apply Kd.R_drew)); exact HO213.out⟩, ⟨by repeat (first | (with_reducible first | exact HB.out | apply below_alloc | apply pw_below_drewN | apply below_drew1) | exact HB.out)⟩⟩
                    · rw [if_neg c12] at H
                      exact absurd H (by simp)
                  · rw [if_neg c11] at H
                    have c11b0 : decide ((wrap64 (x7_1 - x12_2)) < 8) = false := decide_eq_false c11
                    clear c11
                    have H' := Aside0.mk H
                    clear H
                    go_wp2
                    go_roundg k2
                    case measure => have := HK1.out; have := HK2.out; omega
                    case rel => exact ⟨(x1_2), (wrap64 (x12_2 + 1)), (by first | rfl | (simp; done) | (simp [*]; done)), H', ⟨by have := HK1.out; have := HK2.out; omega⟩, ⟨by (with_reducible repeat (first | apply Kd.R_alloc | apply Kd.R_drewN | apply Kd.R_drew)); exact HO_1.out⟩, ⟨by repeat (first | (with_reducible first | exact HB.out | apply below_alloc | apply pw_below_drewN | apply below_drew1) | exact HB.out)⟩⟩
                · rw [if_neg c10] at H
                  have c10b0 : decide (x12_2 < 8) = false := decide_eq_false c10
                  clear c10
                  have H' := Aside0.mk H
                  clear H
                  go_wp2
                  go_roundg k2
                  case measure => have := HK1.out; have := HK2.out; omega
                  case rel => exact ⟨(x1_2), (wrap64 (x12_2 + 1)), (by first | rfl | (simp; done) | (simp [*]; done)), H', ⟨by have := HK1.out; have := HK2.out; omega⟩, ⟨by (with_reducible repeat (first | apply Kd.R_alloc | apply Kd.R_drewN | apply Kd.R_drew)); exact HO_1.out⟩, ⟨by repeat (first | (with_reducible first | exact HB.out | apply below_alloc | apply pw_below_drewN | apply below_drew1) | exact HB.out)⟩⟩
            · rw [if_neg c4] at H
              have c4b0 : decide (x12_2 < (wrap64 (x7_1 + 1))) = false := decide_eq_false c4
              clear c4
              have H' := Aside0.mk H
              clear H
              go_wp2
              go_roundg k2
              case measure => have := HK1.out; have := HK2.out; omega
              case rel => exact ⟨(x1_2), (wrap64 (x7_1 + 1)), (by first | rfl | (simp; done) | (simp [*]; done)), H', ⟨by have := HK1.out; have := HK2.out; omega⟩, ⟨by (with_reducible repeat (first | apply Kd.R_alloc | apply Kd.R_drewN | apply Kd.R_drew)); exact HO_1.out⟩, ⟨by repeat (first | (with_reducible first | exact HB.out | apply below_alloc | apply pw_below_drewN | apply below_drew1) | exact HB.out)⟩⟩
      · rw [if_neg c3] at H
        have c3b0 : decide (x7_1 < 15) = false := decide_eq_false c3
        clear c3
        obtain rfl := Option.some.inj H
        go_wp2
        go_ret
        exact ⟨_, by first | rfl | (simp [errW_none, errW_some] <;> rfl) | (simp [*, errW_none, errW_some] <;> rfl), by (with_reducible repeat (first | apply Kd.R_alloc | apply Kd.R_drewN | apply Kd.R_drew)); exact HO_1.out, by repeat (first | (with_reducible first | exact HB.out | apply below_alloc | apply pw_below_drewN | apply below_drew1) | exact HB.out)⟩

theorem izz_f : Ev (fun k => impl_zigZag.f k) zzL := Ev.of (g := fun k => impl_zigZag.f k) (fun k => impl_zigZag.mono k) (k := 400) (by decide +kernel)

end Go.Proofs.Ythajjjpblkhmmaa.CR
