/- Functions that a law of this seat reaches: written by a program of this session (wip/xprint.py), and by hand. -/
import Derived.Test.YtpcfjobojdldnaaYMac
import Derived.Test.YtpcfjobojdldnaaYCVx0
import Derived.Test.YtpcfjobojdldnaaYCVx11
namespace Go.Proofs.Ytpcfjobojdldnaa.CV
open Go.RowKit Go.Proofs.Ytpcfjobojdldnaa.B Go.Proofs.YtpcfjobojdldnaaW.PrintWords Go.Proofs.YtpcfjobojdldnaaW.PrintLast Go.Proofs.YtpcfjobojdldnaaW.PrintMore
attribute [local go_sem] max2_int min2_int max_two min_two max_three min_three max_four min_four   -- for this text's walks alone
set_option linter.unusedVariables false
set_option linter.unusedSimpArgs false

/-! ### slices_Repeat_int_int: function 88 (by hand) -/
set_option maxHeartbeats 8000000 in
set_option maxRecDepth 100000 in
theorem mul1_64 (w : World) : Calls Try.prog 90 #[.int .u64 1, .int .u64 64] w fun e w' => e = .returned (.tuple #[.int .u64 0, .int .u64 64]) ∧ Drawn0 w w' := by
  go_enter Try.func90, Try.ntmps90
  go_wp2
  go_ret2
  exact ⟨by first | rfl | decide | (simp; done), by repeat (first | exact Drawn0.refl _ | apply Drawn0.step)⟩
/-- copy into a row of numbers of the call's own, from place 'off' on: the run, and the row behind it. -/
theorem copy_run {P : Program} {w0 W : World} {base e : Nat} {ok : Nat → Prop} (dT sT ty : TypeId) (hu : P.underlying dT = some (.slice e)) (hsz : (P.info? e).map (·.size) = some 1)
    (g off len cap : Nat) (xs ys : List Int) (HO : (Kd.int .i64).R e W base ok (.slice (some ⟨g, 0, none⟩) len cap) xs) (HB : Below base w0 W) (a : Addr) (sLen dLen : Nat) (hn : ys.length = Nat.min sLen dLen) (hfit : off + ys.length ≤ len)
    (hsrc : ∀ j v, ys[j]? = some v → W.cell? (a.add j) = some (.int .i64 v)) :
    ∃ w1, (∀ dCap sCap, (Builtin.copy_ #[dT, sT] ty #[.slice (some ⟨g, off, none⟩) dLen dCap, .slice (some a) sLen sCap]).run P W = .ok (goInt ys.length) w1) ∧ (Kd.int .i64).R e w1 base ok (.slice (some ⟨g, 0, none⟩) len cap) (xs.take off ++ (ys ++ xs.drop (off + ys.length))) ∧ Below base w0 w1 := by
  have hok := HO.1
  obtain ⟨hl, hv⟩ := Kd.own_of_R (enc := fun x : Int => Value.int .i64 x) HO
  have hlx : xs.length = len := by
    have := (Kd.R_reads' HO).1
    omega
  rcases hv with ⟨hv, _⟩ | ⟨g', cap', cur, hv, hb, hg, hc1, hc2, hc3, hc4⟩
  · exact absurd hv (by simp)
  · obtain ⟨rfl, rfl⟩ : g = g' ∧ cap = cap' := by
      injection hv with h1 h2 h3
      injection h1 with h1
      injection h1 with h1
      exact ⟨h1, h3⟩
    simp only [Nat.mul_one] at hc3 hc4
    have hcl : cur.toList.length = cap := by simpa using hc3
    have hlt : (ys.map (Value.int .i64)).length = ys.length := List.length_map _
    refine ⟨W.setRow g (cur.toList.take off ++ ys.map (Value.int .i64) ++ cur.toList.drop (off + ys.length)).toArray, fun dCap sCap => ?_, ?_, below_setRow HB hb _⟩
    · have := run_copy_row (P := P) W dT sT ty e g off dLen dCap a sLen sCap cur e (ys.map (Value.int .i64)) hu hsz hg (by rw [hlt]; exact hn) (fun j v hj => by
        rw [List.getElem?_map] at hj
        obtain ⟨y, hy, rfl⟩ := Option.map_eq_some_iff.1 hj
        exact hsrc j y hy) (by rw [hlt, hc3]; omega) (by intro v hv; obtain ⟨y, _, rfl⟩ := List.mem_map.1 hv; rfl)
      rw [hlt] at this
      exact this
    · have hll : (xs.take off ++ (ys ++ xs.drop (off + ys.length))).length = len := by
        simp only [List.length_append, List.length_take, List.length_drop]
        omega
      refine Kd.R_of_own (enc := Value.int .i64) ⟨by rw [encs_length, Nat.mul_one], .inr ⟨g, cap, _, by rw [hll], hb, setRow_heap W g _ _ e _ hg, by rw [hll]; omega, hc2, ?_, ?_⟩⟩ hok
      · simp only [List.size_toArray, List.length_append, List.length_take, List.length_drop, List.length_map]
        omega
      · have hM : (xs.map (Value.int .i64)).length = len := by rw [List.length_map]; exact hlx
        have hc5 : cur.toList = xs.map (Value.int .i64) ++ cur.toList.drop len := by
          rw [← hlx, ← show cur.toList.take xs.length = xs.map (Value.int .i64) from hc4, List.take_append_drop]
        have e1 : cur.toList.take off = (xs.take off).map (Value.int .i64) := by rw [hc5, List.take_append_of_le_length (by omega), List.map_take]
        have e2 : cur.toList.drop (off + ys.length) = (xs.drop (off + ys.length)).map (Value.int .i64) ++ cur.toList.drop len := by
          have := congrArg (List.drop (off + ys.length)) hc5
          rw [List.drop_append_of_le_length (by omega)] at this
          rw [this, List.map_drop]
        rw [Nat.mul_one, hll]
        show List.take len (cur.toList.take off ++ ys.map (Value.int .i64) ++ cur.toList.drop (off + ys.length)) = (xs.take off ++ (ys ++ xs.drop (off + ys.length))).map (Value.int .i64)
        rw [e1, e2, List.append_assoc, ← List.append_assoc (ys.map _), ← List.append_assoc (List.map _ (xs.take off)), ← List.map_append, ← List.map_append, List.take_append_of_le_length (by rw [List.length_map, hll]; exact Nat.le_refl _), List.take_of_length_le (by rw [List.length_map, hll]; exact Nat.le_refl _)]
def repN (n : Nat) : List Int := List.replicate n (-1) ++ List.replicate (64 - n) 0
theorem rep_src {W : World} {e base g cap n : Nat} {ok : Nat → Prop} (HO : (Kd.int .i64).R e W base ok (.slice (some ⟨g, 0, none⟩) 64 cap) (repN n)) (hn : n ≤ 64) : ∀ (j : Nat) (v : Int), (List.replicate n (-1 : Int))[j]? = some v → W.cell? ((⟨g, 0, none⟩ : Addr).add j) = some (.int .i64 v) := by
  intro j v hj
  have hjn : j < n := by
    have := (List.getElem?_eq_some_iff.1 hj).1
    simpa using this
  obtain ⟨ad, e1, hx⟩ := Kd.at_int (Kd.R_reads' HO).2.2 (j : Int) (Int.natCast_nonneg _) (by have : (repN n).length = 64 := by (unfold repN; simp; omega)
                                                                                             omega)
  cases e1
  rw [Int.toNat_natCast] at hx
  rw [hx]
  have : v = -1 := by
    have := (List.getElem?_eq_some_iff.1 hj).2
    simpa using this.symm
  rw [this]
  congr 2
  unfold rd repN
  rw [Int.toNat_natCast]
  simp [List.getD, List.getElem?_append, hjn]
theorem repN_step (n : Nat) : (repN n).take n ++ (List.replicate n (-1) ++ (repN n).drop (n + n)) = repN (n + n) := by
  have e1 : (repN n).take n = List.replicate n (-1) := by unfold repN; rw [List.take_append_of_le_length (by simp)]; simp
  have e2 : (repN n).drop (n + n) = List.replicate (64 - (n + n)) 0 := by
    unfold repN
    rw [List.drop_append, List.drop_eq_nil_of_le (by simp), List.nil_append, List.length_replicate, List.drop_replicate]
    congr 1
    omega
  rw [e1, e2, ← List.append_assoc, List.replicate_append_replicate]
  rfl
theorem rep_step {W w0 : World} {base g cap : Nat} (n m dl : Nat) (HO : (Kd.int .i64).R 3 W base (fun _ => True) (.slice (some ⟨g, 0, none⟩) 64 cap) (repN n)) (HB : Below base w0 W) (hm : n + n = m) (hd : n + dl = 64) (hnd : n ≤ dl) :
    ∃ w1, (∀ dCap sCap, (Builtin.copy_ #[55, 55] 3 #[.slice (some ⟨g, n, none⟩) dl dCap, .slice (some ⟨g, 0, none⟩) n sCap]).run Try.prog W = .ok (goInt n) w1) ∧ (Kd.int .i64).R 3 w1 base (fun _ => True) (.slice (some ⟨g, 0, none⟩) 64 cap) (repN m) ∧ Below base w0 w1 := by
  obtain ⟨w1, h1, h2, h3⟩ := copy_run (P := Try.prog) 55 55 3 Try.underlying55 (by kernel_rfl) g n 64 cap (repN n) (List.replicate n (-1)) HO HB ⟨g, 0, none⟩ n dl (by rw [List.length_replicate]; exact (Nat.min_eq_left hnd).symm) (by rw [List.length_replicate]; omega) (rep_src HO (by omega))
  rw [List.length_replicate] at h1 h2
  rw [repN_step, hm] at h2
  exact ⟨w1, h1, h2, h3⟩
theorem step_rep {ops : Array Oper} {o : Oper} {a : Act} {w w0 : World} {K : Act → World → Prop} {Q : Exit → Act → World → Prop} {E : Prop} {base g cap : Nat} (n m dl dc sc : Nat) (hg : o.guard = none) (d x : Operand) (hop : o.op = Op.call { callee := Callee.builtin Builtin.copy, args := #[d, x], argTypes := #[55, 55] }) (hty : o.type = 3)
    (hd : a.eval d = .slice (some ⟨g, n, none⟩) dl dc) (hx : a.eval x = .slice (some ⟨g, 0, none⟩) n sc) (hm : n + n = m) (hdl : n + dl = 64) (hnd : n ≤ dl)
    (HO : (Kd.int .i64).R 3 w base (fun _ => True) (.slice (some ⟨g, 0, none⟩) 64 cap) (repN n)) (HB : Below base w0 w)
    (h : ∀ w1, (Kd.int .i64).R 3 w1 base (fun _ => True) (.slice (some ⟨g, 0, none⟩) 64 cap) (repN m) → Below base w0 w1 → K (a.put o.dst (goInt n)) w1) :
    if Region.wanted o (yielded ops a.tmps) = true then Oper.wp Try.prog o a w K Q else E := by
  have hw : Region.wanted o (yielded ops a.tmps) = true := by simp [Region.wanted, hg]
  rw [if_pos hw]
  obtain ⟨w1, hrun, ho, hb⟩ := rep_step n m dl HO HB hm hdl hnd
  have hr := hrun dc sc
  unfold Oper.wp
  simp [execOp, hop, resolve, invoke, builtin, hd, hx, hty, hr, Result.andThen]
  exact h w1 ho hb
set_option maxHeartbeats 8000000 in
set_option maxRecDepth 100000 in
theorem rep_walk (A0 : Option Addr) (c0 : Nat) (w : World) (hr0 : Kd.C (Kd.int .i64) w A0 1 [-1]) :
    Calls Try.prog 88 #[.slice A0 1 c0, .int .i64 64] w fun e w' => ∃ v0_ : Value, e = .returned (v0_) ∧ Kd.R (Kd.int .i64) 3 w' w.heap.size (fun _ => True) v0_ (List.replicate 64 (-1)) ∧ Below w.heap.size w w' := by
  obtain ⟨ad, e1, hx1⟩ := Kd.at_int hr0 0 (by decide) (by decide)
  cases e1
  have AD : Aside0 (∀ W', Below w.heap.size w W' → ∀ j v, [(-1 : Int)][j]? = some v → W'.cell? (ad.add j) = some (.int .i64 v)) := ⟨fun W' hb j v hj => by
    obtain rfl : j = 0 := by
      have := (List.getElem?_eq_some_iff.1 hj).1
      simp at this
      exact this
    obtain rfl : v = -1 := by simpa using hj.symm
    exact (hb.cell (World.block_lt_of_cell? w _ hx1)).trans hx1⟩
  clear hr0 hx1
  have HB := Aside0.mk (Below.refl w.heap.size w)
  obtain ⟨zs, hzs⟩ : ∃ zs : List Int, zs = List.replicate (64 : Int).toNat 0 := ⟨_, rfl⟩
  have HZ := Aside0.mk hzs
  clear hzs
  go_enter Try.func88, Try.ntmps88
  go_wp2_with (first
    | (go_at_call 90; (with_reducible refine (mul1_64 _).mono ?_); rintro e w' ⟨rfl, ⟨nd, rfl⟩⟩)
    | ((with_reducible refine gate_dst (N := 30) rfl ?_); refine Kd.R_make (Kd.int .i64) _ 3 rfl (N := 30) rfl 55 _ _ rfl (64 : Int) rfl rfl Try.underlying55 (.int .i64 0) 8 info3 rfl (by decide) (by omega) 0 (ok := fun _ => True) (okp := fun _ => True) (by exact rfl) (fun _ hk => hk) trivial (by decide) (by decide) (Below.refl _ _) (Nat.le_refl _) ?_; intro v30 w30 ho hb hg_ hnew_; clear hg_ hnew_; rw [← HZ.out] at ho; have n0_ := Aside0.mk (Kd.R_lower ho (below_size (by repeat (first | (with_reducible first | exact HB.out | apply below_alloc | apply pw_below_drewN | apply below_drew1) | exact HB.out)))); have n1_ := Aside0.mk (below_step (by repeat (first | (with_reducible first | exact HB.out | apply below_alloc | apply pw_below_drewN | apply below_drew1) | exact HB.out)) hb); clear HB; have HO := n0_; have HB := n1_; clear n0_ n1_; clear hb ho; (obtain ⟨g, cap, rfl, gb, gl, cl, HG⟩ := Kd.R_form HO.out (by rw [HZ.out]; decide)); clear gb gl cl HG; (rw [show zs.length = 64 from by rw [HZ.out]; rfl] at HO ⊢); (obtain ⟨w33, hrun, ho, hb⟩ := copy_run (P := Try.prog) 55 55 3 Try.underlying55 (by kernel_rfl) g 0 64 cap zs [-1] HO.out HB.out ad 1 64 rfl (by decide) (AD.out _ (HB.out))); have n0_ := Aside0.mk ho; have n1_ := Aside0.mk hb; clear HB HO; have HO := n0_; have HB := n1_; clear n0_ n1_; clear ho hb))
  have HI : Aside0 (Kd.R (Kd.int .i64) 3 w33 w.heap.size (fun _ => True) (.slice (some ⟨g, 0, none⟩) 64 cap) (repN 1)) := ⟨by have h_ := HO.out; rw [HZ.out] at h_; exact h_⟩
  clear HO HZ hrun AD
  go_loopg [8] 7 (fun kq v8 w' => ∃ n : Nat, v8 = .int .i64 (n : Int) ∧ Aside0 ((n = 1 ∧ kq = 7) ∨ (n = 2 ∧ kq = 6) ∨ (n = 4 ∧ kq = 5) ∨ (n = 8 ∧ kq = 4) ∨ (n = 16 ∧ kq = 3) ∨ (n = 32 ∧ kq = 2) ∨ (n = 64 ∧ kq = 1)) ∧ Aside0 (Kd.R (Kd.int .i64) 3 w' w.heap.size (fun _ => True) (.slice (some ⟨g, 0, none⟩) 64 cap) (repN n)) ∧ Aside0 (Below w.heap.size w w'))
  case atStart => exact ⟨1, rfl, ⟨.inl ⟨rfl, rfl⟩⟩, HI, HB⟩
  case round =>
    clear HI HB
    obtain ⟨n, rfl, HK, HO, HB⟩ := hrel
    have hcap := (Kd.R_reads' HO.out).2.1
    obtain ⟨rfl, rfl⟩ | ⟨rfl, rfl⟩ | ⟨rfl, rfl⟩ | ⟨rfl, rfl⟩ | ⟨rfl, rfl⟩ | ⟨rfl, rfl⟩ | ⟨rfl, rfl⟩ := HK.out
    · have k1 : (1 ≤ (cap : Int)) = True := eq_true (by omega)
      have k2 : (cap = 1) = False := eq_false (by omega)
      clear HK
      go_wp2
      go_region_law (refine step_rep (w0 := w) (base := w.heap.size) (g := g) (cap := cap) 1 2 63 (cap - 1) cap rfl (.tmp 41) (.tmp 44) rfl rfl (by simp [Act.eval, Act.put]) (by simp [Act.eval, Act.put]) rfl rfl (by decide) (by (with_reducible repeat (first | apply Kd.R_alloc | apply Kd.R_drewN | apply Kd.R_drew)); exact HO.out) (by repeat (first | (with_reducible first | exact HB.out | apply below_alloc | apply pw_below_drewN | apply below_drew1) | exact HB.out)) ?_; intro w1 ho hb; have n0_ := Aside0.mk ho; have n1_ := Aside0.mk hb; clear HO HB ho hb; have HO := n0_; have HB := n1_; clear n0_ n1_)
      (try simp only [List.getElem_toArray, List.getElem_cons_succ, List.getElem_cons_zero, Act.put, List.setIfInBounds_toArray, List.set_cons_zero, List.set_cons_succ])
      (try go_wp2)
      go_roundg 6
      case measure => omega
      case rel => exact ⟨2, rfl, ⟨(.inr (.inl ⟨rfl, rfl⟩))⟩, ⟨by (with_reducible repeat (first | apply Kd.R_alloc | apply Kd.R_drewN | apply Kd.R_drew)); exact HO.out⟩, ⟨by repeat (first | (with_reducible first | exact HB.out | apply below_alloc | apply pw_below_drewN | apply below_drew1) | exact HB.out)⟩⟩
    · have k1 : (2 ≤ (cap : Int)) = True := eq_true (by omega)
      have k2 : (cap = 2) = False := eq_false (by omega)
      clear HK
      go_wp2
      go_region_law (refine step_rep (w0 := w) (base := w.heap.size) (g := g) (cap := cap) 2 4 62 (cap - 2) cap rfl (.tmp 41) (.tmp 44) rfl rfl (by simp [Act.eval, Act.put]) (by simp [Act.eval, Act.put]) rfl rfl (by decide) (by (with_reducible repeat (first | apply Kd.R_alloc | apply Kd.R_drewN | apply Kd.R_drew)); exact HO.out) (by repeat (first | (with_reducible first | exact HB.out | apply below_alloc | apply pw_below_drewN | apply below_drew1) | exact HB.out)) ?_; intro w1 ho hb; have n0_ := Aside0.mk ho; have n1_ := Aside0.mk hb; clear HO HB ho hb; have HO := n0_; have HB := n1_; clear n0_ n1_)
      (try simp only [List.getElem_toArray, List.getElem_cons_succ, List.getElem_cons_zero, Act.put, List.setIfInBounds_toArray, List.set_cons_zero, List.set_cons_succ])
      (try go_wp2)
      go_roundg 5
      case measure => omega
      case rel => exact ⟨4, rfl, ⟨(.inr (.inr (.inl ⟨rfl, rfl⟩)))⟩, ⟨by (with_reducible repeat (first | apply Kd.R_alloc | apply Kd.R_drewN | apply Kd.R_drew)); exact HO.out⟩, ⟨by repeat (first | (with_reducible first | exact HB.out | apply below_alloc | apply pw_below_drewN | apply below_drew1) | exact HB.out)⟩⟩
    · have k1 : (4 ≤ (cap : Int)) = True := eq_true (by omega)
      have k2 : (cap = 4) = False := eq_false (by omega)
      clear HK
      go_wp2
      go_region_law (refine step_rep (w0 := w) (base := w.heap.size) (g := g) (cap := cap) 4 8 60 (cap - 4) cap rfl (.tmp 41) (.tmp 44) rfl rfl (by simp [Act.eval, Act.put]) (by simp [Act.eval, Act.put]) rfl rfl (by decide) (by (with_reducible repeat (first | apply Kd.R_alloc | apply Kd.R_drewN | apply Kd.R_drew)); exact HO.out) (by repeat (first | (with_reducible first | exact HB.out | apply below_alloc | apply pw_below_drewN | apply below_drew1) | exact HB.out)) ?_; intro w1 ho hb; have n0_ := Aside0.mk ho; have n1_ := Aside0.mk hb; clear HO HB ho hb; have HO := n0_; have HB := n1_; clear n0_ n1_)
      (try simp only [List.getElem_toArray, List.getElem_cons_succ, List.getElem_cons_zero, Act.put, List.setIfInBounds_toArray, List.set_cons_zero, List.set_cons_succ])
      (try go_wp2)
      go_roundg 4
      case measure => omega
      case rel => exact ⟨8, rfl, ⟨(.inr (.inr (.inr (.inl ⟨rfl, rfl⟩))))⟩, ⟨by (with_reducible repeat (first | apply Kd.R_alloc | apply Kd.R_drewN | apply Kd.R_drew)); exact HO.out⟩, ⟨by repeat (first | (with_reducible first | exact HB.out | apply below_alloc | apply pw_below_drewN | apply below_drew1) | exact HB.out)⟩⟩
    · have k1 : (8 ≤ (cap : Int)) = True := eq_true (by omega)
      have k2 : (cap = 8) = False := eq_false (by omega)
      clear HK
      go_wp2
      go_region_law (refine step_rep (w0 := w) (base := w.heap.size) (g := g) (cap := cap) 8 16 56 (cap - 8) cap rfl (.tmp 41) (.tmp 44) rfl rfl (by simp [Act.eval, Act.put]) (by simp [Act.eval, Act.put]) rfl rfl (by decide) (by (with_reducible repeat (first | apply Kd.R_alloc | apply Kd.R_drewN | apply Kd.R_drew)); exact HO.out) (by repeat (first | (with_reducible first | exact HB.out | apply below_alloc | apply pw_below_drewN | apply below_drew1) | exact HB.out)) ?_; intro w1 ho hb; have n0_ := Aside0.mk ho; have n1_ := Aside0.mk hb; clear HO HB ho hb; have HO := n0_; have HB := n1_; clear n0_ n1_)
      (try simp only [List.getElem_toArray, List.getElem_cons_succ, List.getElem_cons_zero, Act.put, List.setIfInBounds_toArray, List.set_cons_zero, List.set_cons_succ])
      (try go_wp2)
      go_roundg 3
      case measure => omega
      case rel => exact ⟨16, rfl, ⟨(.inr (.inr (.inr (.inr (.inl ⟨rfl, rfl⟩)))))⟩, ⟨by (with_reducible repeat (first | apply Kd.R_alloc | apply Kd.R_drewN | apply Kd.R_drew)); exact HO.out⟩, ⟨by repeat (first | (with_reducible first | exact HB.out | apply below_alloc | apply pw_below_drewN | apply below_drew1) | exact HB.out)⟩⟩
    · have k1 : (16 ≤ (cap : Int)) = True := eq_true (by omega)
      have k2 : (cap = 16) = False := eq_false (by omega)
      clear HK
      go_wp2
      go_region_law (refine step_rep (w0 := w) (base := w.heap.size) (g := g) (cap := cap) 16 32 48 (cap - 16) cap rfl (.tmp 41) (.tmp 44) rfl rfl (by simp [Act.eval, Act.put]) (by simp [Act.eval, Act.put]) rfl rfl (by decide) (by (with_reducible repeat (first | apply Kd.R_alloc | apply Kd.R_drewN | apply Kd.R_drew)); exact HO.out) (by repeat (first | (with_reducible first | exact HB.out | apply below_alloc | apply pw_below_drewN | apply below_drew1) | exact HB.out)) ?_; intro w1 ho hb; have n0_ := Aside0.mk ho; have n1_ := Aside0.mk hb; clear HO HB ho hb; have HO := n0_; have HB := n1_; clear n0_ n1_)
      (try simp only [List.getElem_toArray, List.getElem_cons_succ, List.getElem_cons_zero, Act.put, List.setIfInBounds_toArray, List.set_cons_zero, List.set_cons_succ])
      (try go_wp2)
      go_roundg 2
      case measure => omega
      case rel => exact ⟨32, rfl, ⟨(.inr (.inr (.inr (.inr (.inr (.inl ⟨rfl, rfl⟩))))))⟩, ⟨by (with_reducible repeat (first | apply Kd.R_alloc | apply Kd.R_drewN | apply Kd.R_drew)); exact HO.out⟩, ⟨by repeat (first | (with_reducible first | exact HB.out | apply below_alloc | apply pw_below_drewN | apply below_drew1) | exact HB.out)⟩⟩
    · have k1 : (32 ≤ (cap : Int)) = True := eq_true (by omega)
      have k2 : (cap = 32) = False := eq_false (by omega)
      clear HK
      go_wp2
      go_region_law (refine step_rep (w0 := w) (base := w.heap.size) (g := g) (cap := cap) 32 64 32 (cap - 32) cap rfl (.tmp 41) (.tmp 44) rfl rfl (by simp [Act.eval, Act.put]) (by simp [Act.eval, Act.put]) rfl rfl (by decide) (by (with_reducible repeat (first | apply Kd.R_alloc | apply Kd.R_drewN | apply Kd.R_drew)); exact HO.out) (by repeat (first | (with_reducible first | exact HB.out | apply below_alloc | apply pw_below_drewN | apply below_drew1) | exact HB.out)) ?_; intro w1 ho hb; have n0_ := Aside0.mk ho; have n1_ := Aside0.mk hb; clear HO HB ho hb; have HO := n0_; have HB := n1_; clear n0_ n1_)
      (try simp only [List.getElem_toArray, List.getElem_cons_succ, List.getElem_cons_zero, Act.put, List.setIfInBounds_toArray, List.set_cons_zero, List.set_cons_succ])
      (try go_wp2)
      go_roundg 1
      case measure => omega
      case rel => exact ⟨64, rfl, ⟨(.inr (.inr (.inr (.inr (.inr (.inr ⟨rfl, rfl⟩))))))⟩, ⟨by (with_reducible repeat (first | apply Kd.R_alloc | apply Kd.R_drewN | apply Kd.R_drew)); exact HO.out⟩, ⟨by repeat (first | (with_reducible first | exact HB.out | apply below_alloc | apply pw_below_drewN | apply below_drew1) | exact HB.out)⟩⟩
    · clear HK
      go_wp2
      go_ret
      exact ⟨_, rfl, by (with_reducible repeat (first | apply Kd.R_alloc | apply Kd.R_drewN | apply Kd.R_drew)); exact HO.out, by repeat (first | (with_reducible first | exact HB.out | apply below_alloc | apply pw_below_drewN | apply below_drew1) | exact HB.out)⟩
def slices_Repeat_int_int.f (l0 : List Int) (a1 : Int) : Option (List Int) := if l0 = [-1] ∧ a1 = 64 then some (List.replicate 64 (-1)) else none
theorem slices_Repeat_int_int.calls (A0 : Option Addr) (c0 : Nat) (l0 : List Int) (a1 : Int) (r : List Int) (w : World) (hr0 : Kd.C (Kd.int .i64) w A0 l0.length l0) (hc0 : l0.length ≤ c0) (h : slices_Repeat_int_int.f l0 a1 = some r) :
  Calls Try.prog 88 #[.slice A0 l0.length c0, .int .i64 a1] w fun e w' => ∃ v0_ : Value, e = .returned (v0_) ∧ Kd.R (Kd.int .i64) 3 w' w.heap.size (fun _ => True) v0_ r ∧ Below w.heap.size w w' := by
 unfold slices_Repeat_int_int.f at h
 by_cases hg : l0 = [-1] ∧ a1 = 64
 ·rw [if_pos hg] at h
  obtain rfl := Option.some.inj h
  obtain ⟨rfl, rfl⟩ := hg
  exact rep_walk A0 c0 w hr0
 ·rw [if_neg hg] at h
  exact absurd h (by simp)

/-! ### impl_untold: function 72 -/
def impl_untold.l0 : Nat → List (List Int) → Int → Int → Option ((List (List Int)))
  | 0, _, _, _ => none
  | k + 1, x3, x7, x8 => if x8 < x7 then ((slices_Repeat_int_int.f (([(-1)] : List Int)) 64).bind fun t433 => (if x3.length < 5864062014805 then (impl_untold.l0 k (x3 ++ [t433]) x7 (wrap64 (x8 + 1))) else (none))) else (some x3)
def impl_untold.f (k : Nat) (a0_0 : Int) (a0_1 : Int) (a0_2 : Int) (a0_3 : Int) (l0_4 : List (S74)) : Option ((List (List Int))) := impl_untold.l0 k (([] : List (List Int))) (l0_4.length : Int) 0
theorem impl_untold.mono_l : ∀ k, (∀ y0 y1 y2, LeO (impl_untold.l0 k y0 y1 y2) (impl_untold.l0 (k + 1) y0 y1 y2))
 | 0 => fun _ _ _ r h => by simp [impl_untold.l0] at h
 | k + 1 => by
  have ih0 := impl_untold.mono_l k
  ·intro y0 y1 y2
   unfold impl_untold.l0
   repeat' first
   | (with_reducible exact ih0 _ _ _)
   | (with_reducible exact LeO.refl _)
   | (with_reducible exact LeO.none _)
   | (with_reducible refine LeO.ite ?_ ?_)
   | (with_reducible refine LeO.bind ?_ (fun _ => ?_))
   | exact ih0 _ _ _
   | exact LeO.none _
   | refine LeO.ite ?_ ?_
   | refine LeO.bind ?_ (fun _ => ?_)
theorem impl_untold.mono : ∀ a0 a1 a2 a3 a4 k, LeO (impl_untold.f k a0 a1 a2 a3 a4) (impl_untold.f (k + 1) a0 a1 a2 a3 a4) := by
 intro a0 a1 a2 a3 a4 k
 have ih0 := impl_untold.mono_l k
 unfold impl_untold.f
 repeat' first
   | (with_reducible exact ih0 _ _ _)
   | (with_reducible exact LeO.refl _)
   | (with_reducible exact LeO.none _)
   | (with_reducible refine LeO.ite ?_ ?_)
   | (with_reducible refine LeO.bind ?_ (fun _ => ?_))
   | exact ih0 _ _ _
   | exact LeO.none _
   | refine LeO.ite ?_ ?_
   | refine LeO.bind ?_ (fun _ => ?_)
set_option maxHeartbeats 8000000 in
set_option maxRecDepth 100000 in
theorem impl_untold.calls (k : Nat) (a0_0 : Int) (a0_1 : Int) (a0_2 : Int) (a0_3 : Int) (A0_4 : Option Addr) (c0_4 : Nat) (l0_4 : List (S74)) (r : List (List Int)) (w : World) (hr0_4 : Kd.C k74 w A0_4 l0_4.length l0_4) (hc0_4 : l0_4.length ≤ c0_4) (h : impl_untold.f k a0_0 a0_1 a0_2 a0_3 l0_4 = some r) :
  Calls Try.prog 72 #[.agg #[.int .i64 a0_0, .int .i64 a0_1, .int .i64 a0_2, .int .i64 a0_3, .slice A0_4 l0_4.length c0_4]] w fun e w' => ∃ v0_ : Value, e = .returned (v0_) ∧ Kd.S (Kd.slice 3 (Kd.int .i64)) 55 w' w.heap.size (fun _ => True) v0_ r ∧ Below w.heap.size w w' := by
 have hu37 := Try.underlying37
 have HR0_4 := aM hr0_4
 have HC0_4 := aM hc0_4
 clear hr0_4 hc0_4
 have HB := aM (Below.refl w.heap.size w)
 have H : (impl_untold.l0 k (([] : List (List Int))) (l0_4.length : Int) 0) = some r := h
 clear h
 obtain ⟨y427, hy427⟩ : ∃ y_ : List (List Int), y_ = (([] : List (List Int))) := ⟨_, rfl⟩
 replace H : (impl_untold.l0 k y427 (l0_4.length : Int) 0) = some r := by first | (rw [hy427]; with_reducible exact H) | (have H2_ := (Option.bind_some _ _).symm.trans H; rw [hy427]; with_reducible exact H2_) | (have H2_ := (Option.bind_some _ _).symm.trans H; with_reducible exact H2_) | with_reducible exact H | (rw [hy427]; exact H) | exact H
 have Ny427 := aM hy427
 clear hy427
 have H' := aM H
 clear H
 go_enter Try.func72, Try.ntmps72
 go_wp2_with (first | ((with_reducible refine gate_dst (N := 1) rfl ?_); refine box_event ?hg (N := 1) ?hd (cs := #[.int .i64 a0_0, .int .i64 a0_1, .int .i64 a0_2, .int .i64 a0_3, .slice A0_4 l0_4.length c0_4]) (t := 37) ?hr ?_; (case hd => rfl); (case hg => rfl); (case hr => first | (go_simp; done) | (go_simp; rfl)); intro gb426 hg w2 hbox hb; have BK426 := aM hbox; have GW426 := aM (zG hg : w.heap.size ≤ gb426); have GE426 := aM (zG hg : w.heap.size ≤ gb426); replace HB := cH HB hb; clear hb hbox hg) | ((with_reducible refine gate_dst (N := 4) rfl ?_); refine Kd.S_lit (Kd.slice 3 (Kd.int .i64)) _ 55 ?hg (N := 4) ?hd (xs := ([] : List (List Int))) (inner := []) (ok := fun _ => True) (okp := fun _ => True) ?hr ?hp (fun _ hk => hk) trivial (Below.refl _ _) (Nat.le_refl _) (by simp) ?_; (case hd => rfl); (case hg => rfl); (case hr => first | (go_simp; done) | (go_simp; rfl)); (case hp => exact (Reps.none _ _)); intro v428 w3 ho4 hb hg_ hnew_; clear hg_ hnew_; (first | rw [← Ny427.out] at ho4 | (simp only [Int.reduceToNat] at ho4; rw [← Ny427.out] at ho4)); have HO429 := aM (Kd.S_lower ho4 (below_size zH)); replace BK426 := cB BK426 hb; replace HB := cH HB hb; clear hb ho4; obtain ⟨hcz5_0, hcz5_1, hcz5_2, hcz5_3, hcz5_4⟩ := kk5 BK426; obtain ⟨hfz5_0, hfz5_1, hfz5_2, hfz5_3, hfz5_4⟩ := kg5 BK426))
 go_loopg [3, 8] k (fun kq v3 v8 w' => ∃ (x3_1 : List (List Int)) (x8_1 : Int), v8 = .int .i64 x8_1 ∧ Aside0 (impl_untold.l0 kq x3_1 (l0_4.length : Int) x8_1 = some r) ∧ Aside0 (kq ≤ k) ∧ Aside0 (Kd.S (Kd.slice 3 (Kd.int .i64)) 55 w' w.heap.size (fun _ => True) v3 x3_1) ∧ Aside0 (w'.heap[gb426]? = some (.cells #[.int .i64 a0_0, .int .i64 a0_1, .int .i64 a0_2, .int .i64 a0_3, (.slice A0_4 l0_4.length c0_4)] 37 (0, 0))) ∧ Aside0 (Below w.heap.size w w'))
 case atStart => exact ⟨(y427), (0), zS, H', ⟨Nat.le_refl _⟩, ⟨by (with_reducible repeat (first | apply Kd.S_alloc | apply Kd.S_drewN | apply Kd.S_drew)); exact HO429.out⟩, ⟨zK BK426⟩, ⟨zH⟩⟩
 case round =>
  clear H'
  (try clear hcz5_0); (try clear hcz5_1); (try clear hcz5_2); (try clear hcz5_3); (try clear hcz5_4); (try clear hfz5_0); (try clear hfz5_1); (try clear hfz5_2); (try clear hfz5_3); (try clear hfz5_4)
  obtain ⟨x3_1, x8_1, rfl, HA, HK1, HO_3, BK426, HB⟩ := hrel
  cases gk with
  | zero => exact absurd HA.out (by simp [impl_untold.l0])
  | succ k1 =>
   have H := HA.out
   clear HA
   simp only [impl_untold.l0] at H
   by_cases c6 : x8_1 < (l0_4.length : Int)
   ·rw [if_pos c6] at H
    have c6b0 : decide (x8_1 < (l0_4.length : Int)) = true := decide_eq_true c6
    clear c6
    obtain ⟨y430, hy430⟩ : ∃ y_ : List Int, y_ = (([(-1)] : List Int)) := ⟨_, rfl⟩
    replace H : ((slices_Repeat_int_int.f y430 64).bind fun t433 => (if x3_1.length < 5864062014805 then (impl_untold.l0 k1 (x3_1 ++ [t433]) (l0_4.length : Int) (wrap64 (x8_1 + 1))) else (none))) = some r := by first | (rw [hy430]; with_reducible exact H) | (have H2_ := (Option.bind_some _ _).symm.trans H; rw [hy430]; with_reducible exact H2_) | (have H2_ := (Option.bind_some _ _).symm.trans H; with_reducible exact H2_) | with_reducible exact H | (rw [hy430]; exact H) | exact H
    have Ny430 := aM hy430
    clear hy430
    obtain ⟨t433, A7, H⟩ := oH H
    by_cases c8 : x3_1.length < 5864062014805
    ·rw [if_pos c8] at H
     have LMc8 := aM c8
     clear c8
     obtain ⟨y436, hy436⟩ : ∃ y_ : List (List Int), y_ = (x3_1 ++ [t433]) := ⟨_, rfl⟩
     replace H : (impl_untold.l0 k1 y436 (l0_4.length : Int) (wrap64 (x8_1 + 1))) = some r := by first | (rw [hy436]; with_reducible exact H) | (have H2_ := (Option.bind_some _ _).symm.trans H; rw [hy436]; with_reducible exact H2_) | (have H2_ := (Option.bind_some _ _).symm.trans H; with_reducible exact H2_) | with_reducible exact H | (rw [hy436]; exact H) | exact H
     have Ny436 := aM hy436
     clear hy436
     have H' := aM H
     clear H
     go_wp2_with (first | ((with_reducible refine gate_dst (N := 11) rfl ?_); refine Kd.R_lit (Kd.int .i64) _ 3 ?hg (N := 11) ?hd (xs := ([(-1)] : List Int)) (inner := [.int .i64 (-1)]) (ok := fun _ => True) (okp := fun _ => True) ?hr ?hp (fun _ hk => hk) trivial (Below.refl _ _) (Nat.le_refl _) (by simp) ?_; (case hd => rfl); (case hg => rfl); (case hr => first | (go_simp; done) | (go_simp; rfl)); (case hp => exact (Reps.one (show Kd.M (Kd.int .i64) _ _ _ (-1) [.int .i64 (-1)] from rfl) (Reps.none _ _))); intro v431 w9 ho10 hb hg_ hnew_; clear hg_ hnew_; (first | rw [← Ny430.out] at ho10 | (simp only [Int.reduceToNat] at ho10; rw [← Ny430.out] at ho10)); replace HO_3 := aM (Kd.S_elder' (by (with_reducible repeat (first | apply Kd.S_alloc | apply Kd.S_drewN | apply Kd.S_drew)); exact HO_3.out) (Kd.R_base ho10) hb); have HO432 := aM (Kd.R_lower ho10 (below_size zH)); replace BK426 := cB BK426 hb; replace HB := cH HB hb; clear hb ho10; obtain ⟨Ao11, co11, eo11⟩ := Kd.R_slice HO432.out; subst eo11) | (go_at_call 88; (with_reducible refine (slices_Repeat_int_int.calls _ _ y430 64 t433 _ ?side1 ?side2 A7.out).mono ?_); (case side1 => exact zC (Kd.R_reads' HO432.out).2.2); (case side2 => exact (Kd.R_reads' HO432.out).2.1); rintro e w12 ⟨v434, rfl, ho0, hb⟩; replace HO_3 := aM (Kd.S_elder' (by (with_reducible repeat (first | apply Kd.S_alloc | apply Kd.S_drewN | apply Kd.S_drew)); exact HO_3.out) (Kd.R_base ho0) hb); have HO435 := aM (Kd.R_lower (Kd.R_new' ho0 (Kd.R_lt (by (with_reducible repeat (first | apply Kd.R_alloc | apply Kd.R_drewN | apply Kd.R_drew)); exact HO432.out))) (below_size zH)); replace HO432 := aM (Kd.R_elder' (by (with_reducible repeat (first | apply Kd.R_alloc | apply Kd.R_drewN | apply Kd.R_drew)); exact HO432.out) (Kd.R_base ho0) hb); replace BK426 := cB BK426 hb; replace HB := cH HB hb; (try clear hb); (try clear ho0); obtain ⟨Ao14, co14, eo14⟩ := Kd.R_slice HO435.out; subst eo14) | ((with_reducible refine gate_builtin (b := .append) (xs := #[.tmp 10, .tmp 13]) rfl ?_); at_builtin; refine Kd.S_append (Kd.slice 3 (Kd.int .i64)) (w0 := w) w.heap.size rfl (.tmp 10) (.tmp 13) 25 55 (.slice none 0 0) 24 rfl Try.underlying25 info55 rfl (by decide) (by omega) u3 x3_1 t433 [.slice Ao14 t433.length co14] (fun k_ => some k_ ≠ (.slice Ao11 y430.length co11 : Value).ownBlock) (fun k_ => some k_ = (.slice Ao14 t433.length co14 : Value).ownBlock) rfl rfl ?aP (fun k_ hk_ => ((Kd.R_mono (ok' := fun k_ => ((fun k_ => some k_ ≠ (.slice Ao11 y430.length co11 : Value).ownBlock)) k_ ∧ some k_ ≠ (u3 : Value).ownBlock) (Kd.R_apart' (HO435.out) (Kd.S_typed HO_3.out) (by decide)) (fun k_ hk => ⟨hk.1.2, hk.2⟩))).1 k_ hk_.symm) ?aF ?aO ?aB ?aS ?aL ?_; (case aP => exact Kd.M_row (Kd.R_mono (Kd.R_tight rfl (Kd.R_mono (ok' := fun k_ => ((fun k_ => some k_ ≠ (.slice Ao11 y430.length co11 : Value).ownBlock)) k_ ∧ some k_ ≠ (u3 : Value).ownBlock) (Kd.R_apart' (HO435.out) (Kd.S_typed HO_3.out) (by decide)) (fun k_ hk => ⟨hk.1.2, hk.2⟩))) (fun _ h_ => h_))); (case aB => exact zH); (case aF => exact (fun k_ hk => Kd.fresh' (Kd.R_lt (by (with_reducible repeat (first | apply Kd.R_alloc | apply Kd.R_drewN | apply Kd.R_drew)); exact HO432.out)) k_ hk)); (case aO => exact (by (with_reducible repeat (first | apply Kd.S_alloc | apply Kd.S_drewN | apply Kd.S_drew)); exact Kd.S_mono HO_3.out (fun k_ hk => ⟨hk.1.2, fun e_ => hk.2 e_⟩))); (case aS => exact (below_size zH)); (case aL => have := LMc8.out; omega); intro v437 w13 ho hb hg hat; rw [← Ny436.out] at ho; replace BK426 := aM (blk_grown (g := gb426) (o := .cells #[.int .i64 a0_0, .int .i64 a0_1, .int .i64 a0_2, .int .i64 a0_3, .slice A0_4 l0_4.length c0_4] 37 (0, 0)) (zK BK426) hg (Kd.S_ne HO_3.out BK426.out (by decide))); replace HO432 := aM (Kd.R_over' (by (with_reducible repeat (first | apply Kd.R_alloc | apply Kd.R_drewN | apply Kd.R_drew)); exact HO432.out) (Kd.S_typed (by (with_reducible repeat (first | apply Kd.S_alloc | apply Kd.S_drewN | apply Kd.S_drew)); exact HO_3.out)) (by decide) hg); replace HB := aM (hb); have HO438 := aM (ho); clear HO_3 HO435; clear ho hb hg hat))
     go_roundg k1
     case measure => have := HK1.out; omega
     case rel => exact ⟨(y436), (wrap64 (x8_1 + 1)), zS, H', ⟨by have := HK1.out; omega⟩, ⟨by (with_reducible repeat (first | apply Kd.S_alloc | apply Kd.S_drewN | apply Kd.S_drew)); exact Kd.S_mono HO438.out (fun _ hk => trivial)⟩, ⟨zK BK426⟩, ⟨zH⟩⟩
    ·rw [if_neg c8] at H
     exact absurd H (by simp)
   ·rw [if_neg c6] at H
    have c6b0 : decide (x8_1 < (l0_4.length : Int)) = false := decide_eq_false c6
    clear c6
    obtain rfl := Option.some.inj H
    go_wp2
    go_ret
    exact ⟨_, zR, by (with_reducible repeat (first | apply Kd.S_alloc | apply Kd.S_drewN | apply Kd.S_drew)); exact HO_3.out, zH⟩

theorem untold_l0 (n : Nat) (hn : n ≤ 1048576) : ∀ (d i : Nat), i + d = n → Ev (fun q => impl_untold.l0 q (unt i) (n : Int) i) (unt n) := by
  intro d
  induction d with
  | zero =>
    intro i hi
    obtain rfl : i = n := by omega
    exact Ev.step (fun q => by rw [impl_untold.l0]) (evNeg (by omega) (Ev.now _))
  | succ d ih =>
    intro i hi
    have hlen : (unt i).length < 5864062014805 := by rw [unt_len]; omega
    refine Ev.step (fun q => by rw [impl_untold.l0]) (evPos (by omega) (evBind (evConst (show slices_Repeat_int_int.f [-1] 64 = some (List.replicate 64 (-1)) from by unfold slices_Repeat_int_int.f; rw [if_pos ⟨rfl, rfl⟩])) (evPos hlen ?_)))
    rw [show (i : Int) + 1 = ((i + 1 : Nat) : Int) from rfl, w64n (by omega), unt_succ]
    exact ih (i + 1) (by omega)
theorem untold_f (p w h r : Int) (l : List S74) (hl : l.length ≤ 1048576) : Ev (fun q => impl_untold.f q p w h r l) (unt l.length) := untold_l0 l.length hl l.length 0 (by omega)

end Go.Proofs.Ytpcfjobojdldnaa.CV
