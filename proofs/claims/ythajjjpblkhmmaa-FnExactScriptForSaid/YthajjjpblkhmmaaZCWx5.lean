/- Functions that a law of this seat reaches: written by a program of this session (wip/xprint.py), and by hand. -/
import Derived.Test.YthajjjpblkhmmaaZCWx0
import Derived.Test.YthajjjpblkhmmaaZCWx3
import Derived.Test.YthajjjpblkhmmaaZCWx4
namespace Go.Proofs.Ythajjjpblkhmmaa.CW
open Go.RowKit Go.Proofs.Ythajjjpblkhmmaa.B Go.Proofs.YthajjjpblkhmmaaW.PrintWords Go.Proofs.YthajjjpblkhmmaaW.PrintLast Go.Proofs.YthajjjpblkhmmaaW.PrintMore
attribute [local go_sem] max2_int min2_int max_two min_two max_three min_three max_four min_four   -- for this text's walks alone
set_option linter.unusedVariables false
set_option linter.unusedSimpArgs false

theorem iFrame_l0 (p w h r : Int) (l : List S42) (hl : l.length ≤ 1048576) : ∀ (d i : Nat) (s : Int), i + d = l.length → Ev (fun k => impl_FrameOk.l0 k s l (l.length : Int) i p w h r l) (framesB l d i s) := by
  intro d
  induction d with
  | zero =>
    intro i s hi
    refine Ev.step (fun k => by rw [impl_FrameOk.l0]) (evNeg (by omega) ?_)
    exact Ev.now _
  | succ d ih =>
    intro i s hi
    have hil : i < l.length := by omega
    refine Ev.step (fun k => by rw [impl_FrameOk.l0]) (evPos (by omega) (evPos (by omega) (evPos (by omega) ?_)))
    simp only [within_f]
    rw [framesB]
    refine comp_ev (fun k b => impl_FrameOk.j2 k s i l (l.length : Int) i b p w h r l (rd_T42 l (i : Int)).f0 (rd_T42 l (i : Int)).f1 (rd_T42 l (i : Int)).f2 (rd_T42 l (i : Int)).f3) (rd_T42 l (i : Int)) _ ?_ ?_
    · refine Ev.step (fun k => by rw [impl_FrameOk.j2]) (evPos rfl ?_)
      exact Ev.now _
    · refine Ev.step (fun k => by rw [impl_FrameOk.j2]) (evNeg (by simp) (evPos (by omega) (evPos (by omega) ?_)))
      rw [Int.toNat_natCast]
      refine evBind (evConst rfl) (evIf (fun ha => ?_) (fun ha => ?_))
      · rw [ha]
        exact Ev.now _
      · rw [Bool.eq_false_iff.2 ha, w64 (x := (i : Int) + 1) (by omega) (by omega)]
        simpa using ih (i + 1) _ (by omega)
theorem iFrameOk_f (p w h r : Int) (l : List S42) (hl : l.length ≤ 1048576) : Ev (fun k => impl_FrameOk.f k p w h r l) (frameB p w h r l) := by
  unfold impl_FrameOk.f frameB
  simp only [within_f]
  refine head_ev (fun k b => impl_FrameOk.j0 k b p w h r l) p w h r (l.length : Int) _ ?_ (fun _ => ?_)
  · refine Ev.step (fun k => by rw [impl_FrameOk.j0]) (evPos rfl ?_)
    exact Ev.now _
  · refine Ev.step (fun k => by rw [impl_FrameOk.j0]) (evNeg (by simp) ?_)
    exact iFrame_l0 p w h r l hl l.length 0 0 (by omega)

-- NOT PRINTED: function 104 (slices_Clone_int_int)

/-! ### impl_ScriptFor_2: function 103 (by hand) -/
set_option maxHeartbeats 8000000 in
set_option maxRecDepth 100000 in
theorem cloneI_calls (A : Option Addr) (c : Nat) (l : List Int) (w : World) (hr : Kd.C (Kd.int .i64) w A l.length l) (hc : l.length ≤ c) (hl : l.length ≤ 1048576) :
    Calls Try.prog 104 #[.slice A l.length c] w fun e w' => ∃ v : Value, e = .returned v ∧ Kd.R (Kd.int .i64) 3 w' w.heap.size (fun _ => True) v l ∧ Below w.heap.size w w' := by
  have HR := Aside0.mk hr
  have HL := Aside0.mk hl
  have HB := Aside0.mk (Below.refl w.heap.size w)
  cases A with
  | none =>
    have hnil : ∀ (w : World) (l c : Nat), (binOp .eql 22 (.slice none l c) (.slice none 0 0)).run Try.prog w = .ok (.bool true) w := fun w l c => Go.Lib.run_eql_slice_nil w _ _ none l c 0 0 Try.underlying22
    have h0 : l = [] := by
      rcases Nat.eq_zero_or_pos l.length with h0 | h0
      · exact List.eq_nil_of_length_eq_zero h0
      · obtain ⟨ad, e_, _⟩ := Kd.at_int hr 0 (by omega) (by omega)
        cases e_
    subst h0
    clear hr hc hl
    go_enter Try.func104, Try.ntmps104
    go_wp2
    go_ret
    exact ⟨_, rfl, Kd.R_nil _ _ _ _ _, HB.out⟩
  | some ad =>
    have hnil : ∀ (w : World) (l c : Nat), (binOp .eql 22 (.slice (some ad) l c) (.slice none 0 0)).run Try.prog w = .ok (.bool false) w := fun w l c => Go.Lib.run_eql_slice_nil w _ _ (some ad) l c 0 0 Try.underlying22
    clear hr hl
    go_enter Try.func104, Try.ntmps104
    go_wp2_with (first
      | ((with_reducible refine gate_dst (N := 5) rfl ?_); refine Kd.R_lit (Kd.int .i64) _ 3 ?hg (N := 5) ?hd (xs := ([] : List Int)) (inner := []) (ok := fun _ => True) (okp := fun _ => True) ?hr ?hp (fun _ hk => hk) trivial (Below.refl _ _) (Nat.le_refl _) (by simp) ?_; (case hd => rfl); (case hg => rfl); (case hr => first | (go_simp; done) | (go_simp; rfl)); (case hp => exact (Reps.none _ _)); intro v5 w5 ho5 hb hg_ hnew_; clear hg_ hnew_; have HO := Aside0.mk ho5; have HB5 := Aside0.mk hb; clear hb ho5)
      | ((with_reducible refine gate_builtin (b := .append) (xs := #[.tmp 5, .tmp 6]) rfl ?_); at_builtin; refine Kd.R_append_rows (Kd.int .i64) (w0 := w) w.heap.size rfl (.tmp 5) (.tmp 6) 22 3 (.int .i64 0) 8 rfl Try.underlying22 info3 rfl (by decide) (by omega) v5 [] l _ _ _ (fun _ => True) (fun _ => False) rfl rfl ?aO ?aR (fun _ _ h => h) (fun _ h => h.elim) ?aF ?aB ?aS ?aL ?_; (case aR => exact Kd.C_below HR.out HB5.out); (case aB => exact HB5.out); (case aF => exact (fun _ _ => trivial)); (case aO => exact HO.out); (case aS => exact (below_size HB5.out)); (case aL => have := HL.out; simp only [List.length_nil]; omega); intro v7 w7 ho hb hg hat; rw [List.nil_append] at ho; have HO7 := Aside0.mk ho; have HB7 := Aside0.mk hb; clear ho hb hg hat))
    go_ret
    exact ⟨_, rfl, HO7.out, HB7.out⟩
set_option maxHeartbeats 8000000 in
set_option maxRecDepth 100000 in
theorem together_walk (ga go : Nat) (all : List Int) (Aa : Option Addr) (ca : Nat) (vo : Value) (out : List S28) (f1 f2 f3 f4 : Int) (w0 W : World) (hne : ga ≠ go)
    (ha : W.heap[ga]? = some (.cells #[.slice Aa all.length ca] 22 (0, 0))) (ho : W.heap[go]? = some (.cells #[vo] 46 (0, 0)))
    (hra : Kd.R (Kd.int .i64) 3 W w0.heap.size (fun _ => True) (.slice Aa all.length ca) all) (hro : Kd.S k28 28 W w0.heap.size (fun _ => True) vo out)
    (hB : Below w0.heap.size w0 W) (hgo : w0.heap.size ≤ go) (hal : all.length ≤ 1048576) (hol : out.length ≤ 1048576) :
    Calls Try.prog 103 #[.agg #[.slice none 0 0, .int .i64 f1, .int .i64 f2, .int .i64 f3, .int .i64 f4], .pointer (some ⟨ga, 0, none⟩), .pointer (some ⟨go, 0, none⟩)] W fun e w' => e = .returned (.tuple #[]) ∧ w'.heap[ga]? = some (.cells #[.slice Aa all.length ca] 22 (0, 0)) ∧
      (∃ v, w'.heap[go]? = some (.cells #[v] 46 (0, 0)) ∧ Kd.S k28 28 w' w0.heap.size (fun _ => True) v (out ++ [⟨all, f1, f2, f3, f4⟩])) ∧ Kd.R (Kd.int .i64) 3 w' w0.heap.size (fun _ => True) (.slice Aa all.length ca) all ∧ Below w0.heap.size w0 w' := by
  have hul := Try.underlying28
  have HA := Aside0.mk ha
  have HO := Aside0.mk ho
  have HRA := Aside0.mk hra
  have HRO := Aside0.mk hro
  have HB := Aside0.mk hB
  have HAL := Aside0.mk hal
  have HOL := Aside0.mk hol
  clear ha ho hra hro hB hal hol
  go_enter Try.func103, Try.ntmps103
  go_wp2_with (first
    | ((with_reducible refine gate_dst (N := 3) rfl ?_); refine box_event ?hg (N := 3) ?hd (cs := #[.slice none 0 0, .int .i64 f1, .int .i64 f2, .int .i64 f3, .int .i64 f4]) (t := 28) ?hr ?_; (case hd => rfl); (case hg => rfl); (case hr => first | (go_simp; done) | (go_simp; rfl)); intro gs hg w2 hbox hb; have HS := Aside0.mk hbox; have NS1 := Aside0.mk (show gs ≠ ga from by rw [hg]; exact Nat.ne_of_gt (blk_lt HA.out)); have NS2 := Aside0.mk (show gs ≠ go from by rw [hg]; exact Nat.ne_of_gt (blk_lt HO.out)); have n0_ := Aside0.mk (Kd.S_below (Kd.S_elderB HRO.out gs (by rw [hg]; exact Nat.le_refl _)) hb); have n1_ := Aside0.mk (Kd.R_below HRA.out hb); have n2_ := Aside0.mk (blk_below HA.out hb); have n3_ := Aside0.mk (blk_below HO.out hb); have n4_ := Aside0.mk (below_step HB.out hb); have GS := Aside0.mk (show w0.heap.size ≤ gs from by rw [hg]; exact below_size HB.out); clear HRO HRA HA HO HB; have HRO := n0_; have HRA := n1_; have HA := n2_; have HO := n3_; have HB := n4_; clear n0_ n1_ n2_ n3_ n4_ hbox hb hg; have hx2_0 := (blk_cell HA.out 0).trans (show (#[Value.slice Aa all.length ca])[0]? = some (.slice Aa all.length ca) from rfl))
    | (go_at_call 104; refine (cloneI_calls Aa ca all _ (Kd.R_reads' HRA.out).2.2 (Kd.R_reads' HRA.out).2.1 HAL.out).mono ?_; rintro e w9 ⟨v9, rfl, hr9, hb⟩; obtain ⟨A9, c9, e9⟩ := Kd.R_slice hr9; subst e9; have H9 := Aside0.mk hr9; have n0_ := Aside0.mk (Kd.S_elder' HRO.out (Kd.R_base hr9) hb); have n1_ := Aside0.mk (Kd.R_below HRA.out hb); have n2_ := Aside0.mk (blk_below HA.out hb); have n3_ := Aside0.mk (blk_below HO.out hb); have n4_ := Aside0.mk (below_step HB.out hb); have n5_ := Aside0.mk (blk_below HS.out hb); have n6_ := Aside0.mk (Kd.R_lower hr9 (below_size HB.out)); clear HRO HRA HA HO HB HS H9 hx2_0; have HRO := n0_; have HRA := n1_; have HA := n2_; have HO := n3_; have HB := n4_; have HS := n5_; have H9 := n6_; clear n0_ n1_ n2_ n3_ n4_ n5_ n6_ hb hr9; have hx9_0 := (blk_cell HS.out 0).trans (show (#[Value.slice none 0 0, .int .i64 f1, .int .i64 f2, .int .i64 f3, .int .i64 f4])[0]? = some (.slice none 0 0) from rfl); have hx9_1 := (blk_cell HS.out 1).trans (show (#[Value.slice none 0 0, .int .i64 f1, .int .i64 f2, .int .i64 f3, .int .i64 f4])[1]? = some (.int .i64 f1) from rfl); have hx9_2 := (blk_cell HS.out 2).trans (show (#[Value.slice none 0 0, .int .i64 f1, .int .i64 f2, .int .i64 f3, .int .i64 f4])[2]? = some (.int .i64 f2) from rfl); have hx9_3 := (blk_cell HS.out 3).trans (show (#[Value.slice none 0 0, .int .i64 f1, .int .i64 f2, .int .i64 f3, .int .i64 f4])[3]? = some (.int .i64 f3) from rfl); have hx9_4 := (blk_cell HS.out 4).trans (show (#[Value.slice none 0 0, .int .i64 f1, .int .i64 f2, .int .i64 f3, .int .i64 f4])[4]? = some (.int .i64 f4) from rfl); have hf9 := blk_frozen HS.out 0; have hy9 := (blk_cell HO.out 0).trans (show (#[vo])[0]? = some vo from rfl); have hn1 := NS2.out; have hn2 := Ne.symm NS2.out)
    | ((with_reducible refine gate_builtin (b := .append) (xs := #[.tmp 7, .tmp 9]) rfl ?_); at_builtin; have SF := Kd.S_far (p := ⟨gs, 0, none⟩) HRO.out (fun _ hk => hk.1.2) (.slice A9 all.length c9); have RF := Kd.R_set HRA.out HS.out (by decide) 0 (.slice A9 all.length c9); have R9 := Kd.R_set H9.out HS.out (by decide) 0 (.slice A9 all.length c9); have BA := blk_far HA.out (p := ⟨gs, 0, none⟩) (Ne.symm NS1.out) (.slice A9 all.length c9); have BO := blk_far HO.out (p := ⟨gs, 0, none⟩) (Ne.symm NS2.out) (.slice A9 all.length c9); have BB : Below w0.heap.size w0 (w9.setCell ⟨gs, 0, none⟩ (.slice A9 all.length c9)) := below_set HB.out GS.out; refine Kd.S_append k28 (w0 := w0) w0.heap.size rfl (.tmp 7) (.tmp 9) 46 28 (.agg #[(.slice none 0 0), (.int .i64 0), (.int .i64 0), (.int .i64 0), (.int .i64 0)]) 56 rfl Try.underlying46 info28 rfl (by decide) (by omega) vo out (⟨all, f1, f2, f3, f4⟩ : S28) [.slice A9 all.length c9, .int .i64 f1, .int .i64 f2, .int .i64 f3, .int .i64 f4] (fun _ => True) (fun k_ => some k_ = (.slice A9 all.length c9 : Value).ownBlock) rfl (by first | (go_simp; done) | (go_simp; rfl)) ?aP ?aK ?aF ?aO ?aB ?aS ?aL ?_; (case aP => exact k28_mkM _ _ _ _ (Kd.R_tight rfl R9)); (case aK => exact fun k_ hk_ => ⟨trivial, ((Kd.R_apart' R9 (Kd.S_typed SF) (by decide)).1 k_ hk_.symm).2⟩); (case aF => exact (fun _ _ => trivial)); (case aO => exact (Kd.S_mono SF (fun _ hk => ⟨trivial, fun e_ => hk.2 e_⟩))); (case aB => exact BB); (case aS => exact (below_size BB)); (case aL => have := HOL.out; omega); intro v12 w12 ho hb hg hat; obtain ⟨A12, c12, e12⟩ := Kd.S_slice ho; subst e12; have n0_ := Aside0.mk ho; have n1_ := Aside0.mk (Kd.R_over' RF (Kd.S_typed SF) (by decide) hg); have n2_ := Aside0.mk (blk_grown BA hg (Kd.S_ne SF BA (by decide))); have n3_ := Aside0.mk (blk_grown BO hg (Kd.S_ne SF BO (by decide))); have n4_ := Aside0.mk hb; clear SF RF R9 BA BO BB HRO HRA HA HO HB HS H9 hx9_0 hx9_1 hx9_2 hx9_3 hx9_4 hf9 hy9 hn1 hn2 ho hb hg hat; have HRO := n0_; have HRA := n1_; have HA := n2_; have HO := n3_; have HB := n4_; clear n0_ n1_ n2_ n3_ n4_; have hx12 := (blk_cell HO.out 0).trans (show (#[vo])[0]? = some vo from rfl); have hf12 := blk_frozen HO.out 0))
  go_end0
  exact ⟨rfl, blk_far HA.out (p := ⟨go, 0, none⟩) hne _, ⟨_, blk_put HO.out 0 _ rfl, by have h_ := HRO.out; rw [List.length_append, List.length_singleton] at h_; exact Kd.S_set h_ HO.out (by decide) 0 _⟩, Kd.R_set HRA.out HO.out (by decide) 0 _, below_set HB.out hgo⟩
/-- The scans that 'each' adds: a component's, one for each pass. -/
def oneS (c : Int) (s : S28) : S28 := ⟨[c], s.f1, s.f2, s.f3, s.f4⟩
def eachL (all : List Int) (ps : List S28) : List S28 := all.flatMap fun c => ps.map (oneS c)
theorem eachL_take {all : List Int} {i : Nat} (h : i < all.length) (ps : List S28) : eachL (all.take (i + 1)) ps = eachL (all.take i) ps ++ ps.map (oneS all[i]) := by
  unfold eachL
  rw [List.take_succ_eq_append_getElem h, List.flatMap_append]
  simp
theorem eachL_length (all : List Int) (ps : List S28) : (eachL all ps).length = all.length * ps.length := by
  induction all with
  | nil => simp [eachL]
  | cons c l ih =>
    have e : eachL (c :: l) ps = ps.map (oneS c) ++ eachL l ps := rfl
    rw [e, List.length_append, List.length_map, ih, List.length_cons, Nat.succ_mul, Nat.add_comm]
theorem one_row {W : World} {base g : Nat} {x : Int} (h : W.heap[g]? = some (.cells #[.int .i64 x] 3 (0, 0))) (hb : base ≤ g) : Kd.R (Kd.int .i64) 3 W base (fun k => k = g) (.slice (some ⟨g, 0, none⟩) 1 1) [x] :=
  Kd.R_of_own (enc := Value.int .i64) ⟨rfl, .inr ⟨g, 1, #[.int .i64 x], rfl, hb, h, Nat.le_refl _, by unfold maxLen; omega, rfl, rfl⟩⟩ (fun k hk => by simpa [Value.ownBlock] using hk.symm)
set_option maxHeartbeats 8000000 in
set_option maxRecDepth 100000 in
theorem each_walk (ga go : Nat) (all : List Int) (Aa : Option Addr) (ca : Nat) (vo : Value) (out ps : List S28) (Ap : Option Addr) (cp : Nat) (w0 W : World) (hne : ga ≠ go)
    (ha : W.heap[ga]? = some (.cells #[.slice Aa all.length ca] 22 (0, 0))) (ho : W.heap[go]? = some (.cells #[vo] 46 (0, 0)))
    (hra : Kd.R (Kd.int .i64) 3 W w0.heap.size (fun _ => True) (.slice Aa all.length ca) all) (hro : Kd.S k28 28 W w0.heap.size (fun _ => True) vo out)
    (hps : Kd.R k28 28 W w0.heap.size (fun k_ => True ∧ some k_ ≠ vo.ownBlock) (.slice Ap ps.length cp) ps)
    (hB : Below w0.heap.size w0 W) (hgo : w0.heap.size ≤ go) (hal : all.length ≤ 4) (hpl : ps.length ≤ 4) (hol : out.length ≤ 1048576) :
    Calls Try.prog 102 #[.slice Ap ps.length cp, .pointer (some ⟨ga, 0, none⟩), .pointer (some ⟨go, 0, none⟩)] W fun e w' => e = .returned (.tuple #[]) ∧ w'.heap[ga]? = some (.cells #[.slice Aa all.length ca] 22 (0, 0)) ∧
      (∃ v, w'.heap[go]? = some (.cells #[v] 46 (0, 0)) ∧ Kd.S k28 28 w' w0.heap.size (fun _ => True) v (out ++ eachL all ps)) ∧ Kd.R (Kd.int .i64) 3 w' w0.heap.size (fun _ => True) (.slice Aa all.length ca) all ∧ Below w0.heap.size w0 w' := by
  have HA := Aside0.mk ha
  have HO := Aside0.mk ho
  have HRA := Aside0.mk hra
  have HRO := Aside0.mk hro
  have HPS := Aside0.mk hps
  have HB := Aside0.mk hB
  have HAL := Aside0.mk hal
  have HPL := Aside0.mk hpl
  have HOL := Aside0.mk hol
  have hx0 := (blk_cell ha 0).trans (show (#[Value.slice Aa all.length ca])[0]? = some (.slice Aa all.length ca) from rfl)
  clear ha ho hra hro hps hB hal hpl hol
  go_enter Try.func102, Try.ntmps102
  go_wp2
  clear hx0
  go_loopg [10] all.length (fun kq v10 w' => ∃ (i : Nat) (v : Value), v10 = .int .i64 (i : Int) ∧ Aside0 (i ≤ all.length ∧ all.length - i ≤ kq) ∧ Aside0 (w'.heap[ga]? = some (.cells #[.slice Aa all.length ca] 22 (0, 0))) ∧ Aside0 (w'.heap[go]? = some (.cells #[v] 46 (0, 0))) ∧ Aside0 (Kd.R (Kd.int .i64) 3 w' w0.heap.size (fun _ => True) (.slice Aa all.length ca) all) ∧ Aside0 (Kd.S k28 28 w' w0.heap.size (fun _ => True) v (out ++ eachL (all.take i) ps)) ∧ Aside0 (Kd.R k28 28 w' w0.heap.size (fun k_ => True ∧ some k_ ≠ v.ownBlock) (.slice Ap ps.length cp) ps) ∧ Aside0 (Below w0.heap.size w0 w'))
  case atStart => exact ⟨0, vo, rfl, ⟨by omega⟩, HA, HO, HRA, ⟨by simpa [eachL] using HRO.out⟩, HPS, HB⟩
  case round =>
    clear HA HO HRA HRO HPS HB
    obtain ⟨i, v, rfl, HI, HA, HO, HRA, HRO, HPS, HB⟩ := hrel
    by_cases c1 : i < all.length
    · have c1b : decide ((i : Int) < (all.length : Int)) = true := decide_eq_true (by omega)
      have c1z : decide ((0 : Int) ≤ (i : Int)) = true := decide_eq_true (by omega)
      obtain ⟨ad, eA, hx1⟩ := Kd.at_int (Kd.R_reads' HRA.out).2.2 (i : Int) (by omega) (by omega)
      subst eA
      rw [Int.toNat_natCast, rd_nat c1] at hx1
      obtain ⟨cc, hcc⟩ : ∃ cc, cc = all[i] := ⟨_, rfl⟩
      rw [← hcc] at hx1
      have HCE := Aside0.mk hcc
      clear hcc
      go_wp2
      go_loopg [16] ps.length (fun kq v16 w' => ∃ (j : Nat) (v : Value), v16 = .int .i64 (j : Int) ∧ Aside0 (j ≤ ps.length ∧ ps.length - j ≤ kq) ∧ Aside0 (w'.heap[ga]? = some (.cells #[.slice (some ad) all.length ca] 22 (0, 0))) ∧ Aside0 (w'.heap[go]? = some (.cells #[v] 46 (0, 0))) ∧ Aside0 (Kd.R (Kd.int .i64) 3 w' w0.heap.size (fun _ => True) (.slice (some ad) all.length ca) all) ∧ Aside0 (Kd.S k28 28 w' w0.heap.size (fun _ => True) v (out ++ eachL (all.take i) ps ++ (ps.take j).map (oneS cc))) ∧ Aside0 (Kd.R k28 28 w' w0.heap.size (fun k_ => True ∧ some k_ ≠ v.ownBlock) (.slice Ap ps.length cp) ps) ∧ Aside0 (Below w0.heap.size w0 w'))
      case atStart => exact ⟨0, v, rfl, ⟨by omega⟩, HA, HO, HRA, ⟨by simpa using HRO.out⟩, HPS, HB⟩
      case round =>
        clear HA HO HRA HRO HPS HB hx1
        obtain ⟨j, v2, rfl, HJ, HA, HO, HRA, HRO, HPS, HB⟩ := hrel
        by_cases c2 : j < ps.length
        · have c2b : decide ((j : Int) < (ps.length : Int)) = true := decide_eq_true (by omega)
          have c2z : decide ((0 : Int) ≤ (j : Int)) = true := decide_eq_true (by omega)
          obtain ⟨adp, A0p, c0p, eP, hp0, hp1, hp2, hp3, hp4, _, _⟩ := at_T28 (Kd.R_reads' HPS.out).2.2 (j : Int) (by omega) (by omega)
          subst eP
          obtain ⟨s, hs⟩ : ∃ s, s = ps[j] := ⟨_, rfl⟩
          rw [show rd_T28 ps (j : Int) = s from by rw [hs]; simp [rd_T28, List.getD, c2]] at hp0 hp1 hp2 hp3 hp4
          rw [Int.toNat_natCast] at hp0 hp1 hp2 hp3 hp4
          have hul := Try.underlying28
          have HSE := Aside0.mk hs
          clear hs
          obtain ⟨Q, hQ⟩ : ∃ Q, Q = out ++ eachL (all.take i) ps ++ (ps.take j).map (oneS cc) := ⟨_, rfl⟩
          rw [← hQ] at HRO
          have HQL : Aside0 (Q.length ≤ 1048600) := ⟨by
            have h1 := HOL.out
            have h2 : (all.take i).length * ps.length ≤ 4 * 4 := Nat.mul_le_mul (by rw [List.length_take]; have := HAL.out; omega) HPL.out
            have h3 := HPL.out
            have e1 : (eachL (all.take i) ps).length ≤ 16 := by rw [eachL_length]; exact h2
            have e2 : ((ps.take j).map (oneS cc)).length ≤ 4 := by rw [List.length_map, List.length_take]; omega
            rw [hQ, List.length_append, List.length_append]
            omega⟩
          have HQ := Aside0.mk hQ
          clear hQ
          have hy := (blk_cell HO.out 0).trans (show (#[v2])[0]? = some v2 from rfl)
          have hlt := World.block_lt_of_cell? wr _ hy
          go_wp2_with (first
            | ((with_reducible refine gate_builtin (b := .append) (xs := #[.tmp 23, .tmp 25]) rfl ?_); at_builtin; have hb0 : Below wr.heap.size wr ((wr.alloc (.cells #[.slice (some ⟨wr.heap.size + 1, 0, none⟩) 1 1, .int .i64 s.f1, .int .i64 s.f2, .int .i64 s.f3, .int .i64 s.f4] 28)).alloc (.cells #[.int .i64 cc] 3)) := below_alloc (below_alloc (Below.refl _ _) _) _; have hnr : ((wr.alloc (.cells #[.slice (some ⟨wr.heap.size + 1, 0, none⟩) 1 1, .int .i64 s.f1, .int .i64 s.f2, .int .i64 s.f3, .int .i64 s.f4] 28)).alloc (.cells #[.int .i64 cc] 3)).heap[wr.heap.size + 1]? = some (.cells #[.int .i64 cc] 3 (0, 0)) := (by have h_ := blk_new (wr.alloc (.cells #[.slice (some ⟨wr.heap.size + 1, 0, none⟩) 1 1, .int .i64 s.f1, .int .i64 s.f2, .int .i64 s.f3, .int .i64 s.f4] 28)) (.cells #[.int .i64 cc] 3); rw [show (wr.alloc (.cells #[.slice (some ⟨wr.heap.size + 1, 0, none⟩) 1 1, .int .i64 s.f1, .int .i64 s.f2, .int .i64 s.f3, .int .i64 s.f4] 28)).heap.size = wr.heap.size + 1 from by simp] at h_; exact h_); have hs2 : ((wr.alloc (.cells #[.slice (some ⟨wr.heap.size + 1, 0, none⟩) 1 1, .int .i64 s.f1, .int .i64 s.f2, .int .i64 s.f3, .int .i64 s.f4] 28)).alloc (.cells #[.int .i64 cc] 3)).heap.size = wr.heap.size + 1 + 1 := (by simp); generalize ((wr.alloc (.cells #[.slice (some ⟨wr.heap.size + 1, 0, none⟩) 1 1, .int .i64 s.f1, .int .i64 s.f2, .int .i64 s.f3, .int .i64 s.f4] 28)).alloc (.cells #[.int .i64 cc] 3)) = WA at hb0 hnr hs2 ⊢; have hsz := hb0.size; have SF := Kd.S_below (Kd.S_mono (ok' := fun k_ => k_ < wr.heap.size) (Kd.S_bound HRO.out) (fun _ hk => hk.2.2.1)) hb0; have RF := Kd.R_below HRA.out hb0; have PF := Kd.R_below HPS.out hb0; have BA := blk_below HA.out hb0; have BO := blk_below HO.out hb0; have BB := below_step HB.out hb0; refine Kd.S_append k28 (w0 := w0) w0.heap.size rfl (.tmp 23) (.tmp 25) 46 28 (.agg #[(.slice none 0 0), (.int .i64 0), (.int .i64 0), (.int .i64 0), (.int .i64 0)]) 56 rfl Try.underlying46 info28 rfl (by decide) (by omega) v2 Q (oneS cc s) [.slice (some ⟨wr.heap.size + 1, 0, none⟩) 1 1, .int .i64 s.f1, .int .i64 s.f2, .int .i64 s.f3, .int .i64 s.f4] (fun _ => True) (fun k_ => k_ = wr.heap.size + 1) rfl (by rw [hs2]; first | rfl | (go_simp; done) | (go_simp; rfl)) ?aP ?aK ?aF ?aO ?aB ?aS ?aL ?_; (case aP => exact k28_mkM _ _ _ (oneS cc s) (one_row hnr (by have := below_size HB.out; omega))); (case aK => exact fun k_ hk_ => ⟨trivial, fun e_ => by have := Kd.S_lt HRO.out k_ e_.symm; omega⟩); (case aF => exact (fun _ _ => trivial)); (case aO => exact (Kd.S_mono SF (fun _ hk => ⟨trivial, by omega⟩))); (case aB => exact BB); (case aS => exact (below_size BB)); (case aL => have := HQL.out; omega); intro v12 w12 ho hb hg hat; obtain ⟨A12, c12, e12⟩ := Kd.S_slice ho; subst e12; rw [List.length_append, List.length_singleton] at ho hat ⊢; have n0_ := Aside0.mk ho; have n1_ := Aside0.mk (Kd.R_over' RF (Kd.S_typed SF) (by decide) hg); have n2_ := Aside0.mk (blk_grown BA hg (Kd.S_ne SF BA (by decide))); have n3_ := Aside0.mk (blk_grown BO hg (Kd.S_ne SF BO (by decide))); have n4_ := Aside0.mk hb; have n5_ := Aside0.mk (Kd.R_after (ok := fun _ => True) PF hg hat); clear SF RF PF BA BO BB hb0 hnr hsz hs2 HRO HRA HA HO HB HPS hlt hy hp0 hp1 hp2 hp3 hp4 ho hb hg hat; have HRO := n0_; have HRA := n1_; have HA := n2_; have HO := n3_; have HB := n4_; have HPS := n5_; clear n0_ n1_ n2_ n3_ n4_ n5_; have hx12 := (blk_cell HO.out 0).trans (show (#[v2])[0]? = some v2 from rfl); have hf12 := blk_frozen HO.out 0))
          go_roundg (ps.length - (j + 1))
          case measure => have := HJ.out; omega
          case rel => exact ⟨j + 1, .slice A12 (Q.length + 1) c12, by rw [show wrap64 ((j : Int) + 1) = ((j + 1 : Nat) : Int) from by have := HPL.out; rw [w64 (by omega) (by omega)]; omega], ⟨by have := HJ.out; omega⟩, ⟨blk_far HA.out (p := ⟨go, 0, none⟩) hne _⟩, ⟨blk_put HO.out 0 _ rfl⟩, ⟨Kd.R_set HRA.out HO.out (by decide) 0 _⟩, ⟨by rw [show out ++ eachL (all.take i) ps ++ (ps.take (j + 1)).map (oneS cc) = Q ++ [oneS cc s] from by rw [HQ.out, HSE.out, List.take_succ_eq_append_getElem c2, List.map_append]; simp only [List.append_assoc, List.map_cons, List.map_nil]]; exact Kd.S_set HRO.out HO.out (by decide) 0 _⟩, ⟨Kd.R_set HPS.out HO.out (by decide) 0 _⟩, ⟨below_set HB.out hgo⟩⟩
        · have c2b : decide ((j : Int) < (ps.length : Int)) = false := decide_eq_false (by omega)
          go_wp2
          go_roundg (all.length - (i + 1))
          case measure => have := HI.out; omega
          case rel => exact ⟨i + 1, v2, by rw [show wrap64 ((i : Int) + 1) = ((i + 1 : Nat) : Int) from by have := HAL.out; rw [w64 (by omega) (by omega)]; omega], ⟨by have := HI.out; omega⟩, HA, HO, HRA, ⟨by have h_ := HRO.out; rw [show ps.take j = ps from List.take_of_length_le (by omega), List.append_assoc, HCE.out, ← eachL_take c1] at h_; exact h_⟩, HPS, HB⟩
    · have c1b : decide ((i : Int) < (all.length : Int)) = false := decide_eq_false (by omega)
      go_wp2
      go_end0
      exact ⟨rfl, HA.out, ⟨v, HO.out, by have h_ := HRO.out; rw [List.take_of_length_le (by omega)] at h_; exact h_⟩, HRA.out, HB.out⟩

/-! ### impl_ScriptFor: function 50 (by hand) -/
theorem sepON {α : Type} {d : Kd α} {e N : Nat} {W w1 : World} {base : Nat} {ok : Nat → Prop} {v : Value} {xs : List α} (h : d.N e W base ok v xs) (hN : N = W.heap.size) (hb : Below W.heap.size W w1) : d.N e w1 base (fun k => ok k ∧ k < N) v xs := by
  subst hN
  exact Kd.N_old h hb
theorem four_boxesS (w : World) (o0 o1 o2 o3 : Obj) : ((((w.alloc o0).alloc o1).alloc o2).alloc o3).heap[w.heap.size]? = some o0 ∧ ((((w.alloc o0).alloc o1).alloc o2).alloc o3).heap[w.heap.size + 1]? = some o1 ∧ ((((w.alloc o0).alloc o1).alloc o2).alloc o3).heap[w.heap.size + 1 + 1]? = some o2 ∧ ((((w.alloc o0).alloc o1).alloc o2).alloc o3).heap[w.heap.size + 1 + 1 + 1]? = some o3 := by
  have s1 : (w.alloc o0).heap.size = w.heap.size + 1 := by simp
  have s2 : ((w.alloc o0).alloc o1).heap.size = w.heap.size + 1 + 1 := by rw [← s1]; simp
  have s3 : (((w.alloc o0).alloc o1).alloc o2).heap.size = w.heap.size + 1 + 1 + 1 := by rw [← s2]; simp
  refine ⟨blk_alloc (blk_alloc (blk_alloc (blk_new w o0) _) _) _, ?_, ?_, ?_⟩
  · rw [← s1]; exact blk_alloc (blk_alloc (blk_new _ o1) _) _
  · rw [← s2]; exact blk_alloc (blk_new _ o2) _
  · rw [← s3]; exact blk_new _ o3
/-- What a literal holds is a row of the call's own. -/
theorem pass_row {W : World} {base g : Nat} {ps : List S28} {cs : List Value} (h : W.heap[g]? = some (.cells cs.toArray 28 (0, 0))) (hb : base ≤ g) (hl : ps.length ≤ 4) (hcs : ∀ ok, Reps (Kd.M k28 W base ok) 5 ps cs) :
    Kd.R k28 28 W base (fun k => k = g) (.slice (some ⟨g, 0, none⟩) ps.length ps.length) ps :=
  ⟨fun k hk => by simpa [Value.ownBlock] using hk.symm, cs, ⟨(hcs (fun _ => True)).1, .inr ⟨g, ps.length, cs.toArray, rfl, hb, h, Nat.le_refl _, by unfold maxLen; omega, (hcs (fun _ => True)).1, by rw [← (show cs.length = ps.length * k28.sz from (hcs (fun _ => True)).1)]; simp⟩⟩, hcs _⟩
theorem each_lit (ga go : Nat) (all : List Int) (Aa : Option Addr) (ca : Nat) (vo : Value) (out ps : List S28) (cs : List Value) (w0 W : World) (hne : ga ≠ go)
    (ha : W.heap[ga]? = some (.cells #[.slice Aa all.length ca] 22 (0, 0))) (ho : W.heap[go]? = some (.cells #[vo] 46 (0, 0)))
    (hra : Kd.R (Kd.int .i64) 3 W w0.heap.size (fun _ => True) (.slice Aa all.length ca) all) (hro : Kd.S k28 28 W w0.heap.size (fun _ => True) vo out)
    (hB : Below w0.heap.size w0 W) (hgo : w0.heap.size ≤ go) (hal : all.length ≤ 4) (hpl : ps.length ≤ 4) (hol : out.length ≤ 1048576) (hcs : ∀ W' ok, Reps (Kd.M k28 W' w0.heap.size ok) 5 ps cs) :
    Calls Try.prog 102 #[.slice (some ⟨W.heap.size, 0, none⟩) ps.length ps.length, .pointer (some ⟨ga, 0, none⟩), .pointer (some ⟨go, 0, none⟩)] (W.alloc (.cells cs.toArray 28)) fun e w' => e = .returned (.tuple #[]) ∧ w'.heap[ga]? = some (.cells #[.slice Aa all.length ca] 22 (0, 0)) ∧
      (∃ v, w'.heap[go]? = some (.cells #[v] 46 (0, 0)) ∧ Kd.S k28 28 w' w0.heap.size (fun _ => True) v (out ++ eachL all ps)) ∧ Kd.R (Kd.int .i64) 3 w' w0.heap.size (fun _ => True) (.slice Aa all.length ca) all ∧ Below w0.heap.size w0 w' :=
  each_walk ga go all Aa ca vo out ps _ _ w0 _ hne (blk_alloc ha _) (blk_alloc ho _) (Kd.R_alloc hra _) (Kd.S_alloc hro _) (Kd.R_mono (pass_row (blk_new W _) (below_size hB) hpl (hcs _)) (fun k hk => ⟨trivial, fun e => by have := Kd.S_lt hro k e.symm; omega⟩)) (below_alloc hB _) hgo hal hpl hol
theorem empty_rowS {W : World} {base g : Nat} (h : W.heap[g]? = some (.cells #[] 28 (0, 0))) (hb : base ≤ g) : Kd.S k28 28 W base (fun _ => True) (.slice (some ⟨g, 0, none⟩) 0 0) [] :=
  ⟨fun _ => 0, fun _ _ => trivial, [], ⟨rfl, .inr ⟨g, 0, #[], rfl, hb, h, Nat.le_refl _, Nat.zero_le _, rfl, rfl⟩⟩, Reps.none _ _⟩
theorem pass1 (W : World) (base : Nat) (ok : Nat → Prop) (a b c d : Int) : Reps (Kd.M k28 W base ok) 5 [(⟨[], a, b, c, d⟩ : S28)] [.slice none 0 0, .int .i64 a, .int .i64 b, .int .i64 c, .int .i64 d] :=
  Reps.snoc (Reps.none _ _) (k28_mkM W base ok ⟨[], a, b, c, d⟩ (Kd.R_nil _ _ _ _ _)) rfl
theorem pass2 (W : World) (base : Nat) (ok : Nat → Prop) (a b c d a' b' c' d' : Int) : Reps (Kd.M k28 W base ok) 5 [(⟨[], a, b, c, d⟩ : S28), ⟨[], a', b', c', d'⟩] [.slice none 0 0, .int .i64 a, .int .i64 b, .int .i64 c, .int .i64 d, .slice none 0 0, .int .i64 a', .int .i64 b', .int .i64 c', .int .i64 d'] :=
  Reps.snoc (pass1 W base ok a b c d) (k28_mkM W base ok ⟨[], a', b', c', d'⟩ (Kd.R_nil _ _ _ _ _)) rfl
def numsC (n : Nat) : List Int := (List.range n).map fun (i : Nat) => (i : Int)
theorem numsC_succ (n : Nat) : numsC (n + 1) = numsC n ++ [(n : Int)] := by simp [numsC, List.range_succ]
theorem numsC_length (n : Nat) : (numsC n).length = n := by simp [numsC]
def scriptV (n : Nat) (kind : Int) : List S28 :=
  if kind = 0 then [⟨numsC n, 0, 63, 0, 0⟩] else if kind = 1 then [] ++ eachL (numsC n) [⟨[], 0, 63, 0, 0⟩]
  else ((([] ++ [⟨numsC n, 0, 0, 0, 1⟩]) ++ eachL (numsC n) [⟨[], 1, 5, 0, 2⟩, ⟨[], 6, 63, 0, 2⟩]) ++ eachL (numsC n) [⟨[], 1, 63, 2, 1⟩] ++ [⟨numsC n, 0, 0, 1, 0⟩]) ++ eachL (numsC n) [⟨[], 1, 63, 1, 0⟩]
def impl_ScriptFor.f (k : Nat) (a0_0 : Int) (a0_1 : Int) (a0_2 : Int) (a0_3 : Int) (l0_4 : List S42) (a1 : Int) : Option (List S28) := (impl_FrameOk.f k a0_0 a0_1 a0_2 a0_3 l0_4).bind fun t => if t = true then ((impl_within.f a1 0 2).bind fun t2 => if t2 = true then (if l0_4.length ≤ 4 then some (scriptV l0_4.length a1) else none) else some []) else some []
theorem impl_ScriptFor.mono : ∀ a0 a1 a2 a3 a4 a5 k, LeO (impl_ScriptFor.f k a0 a1 a2 a3 a4 a5) (impl_ScriptFor.f (k + 1) a0 a1 a2 a3 a4 a5) := by
  intro a0 a1 a2 a3 a4 a5 k
  unfold impl_ScriptFor.f
  exact LeO.bind (impl_FrameOk.mono _ _ _ _ _ _) (fun t => LeO.refl _)
set_option maxHeartbeats 8000000 in
set_option maxRecDepth 100000 in
theorem impl_ScriptFor.calls (k : Nat) (a0_0 : Int) (a0_1 : Int) (a0_2 : Int) (a0_3 : Int) (A0_4 : Option Addr) (c0_4 : Nat) (l0_4 : List S42) (a1 : Int) (r : List S28) (w : World) (hr0_4 : Kd.C k42 w A0_4 l0_4.length l0_4) (hc0_4 : l0_4.length ≤ c0_4) (h : impl_ScriptFor.f k a0_0 a0_1 a0_2 a0_3 l0_4 a1 = some r) :
    Calls Try.prog 50 #[.agg #[.int .i64 a0_0, .int .i64 a0_1, .int .i64 a0_2, .int .i64 a0_3, .slice A0_4 l0_4.length c0_4], .int .i64 a1] w fun e w' => ∃ v0_ : Value, e = .returned (v0_) ∧ Kd.S k28 28 w' w.heap.size (fun _ => True) v0_ r ∧ Below w.heap.size w w' := by
  have hu45 := Try.underlying45
  have HR0_4 := Aside0.mk hr0_4
  have HC0_4 := Aside0.mk hc0_4
  clear hr0_4 hc0_4
  have HB := Aside0.mk (Below.refl w.heap.size w)
  obtain ⟨t, A10, H⟩ := Option.bind_eq_some_iff.mp h
  have A1 := Aside0.mk A10
  clear A10 h
  cases t with
  | false =>
    rw [if_neg (by simp)] at H
    obtain rfl := Option.some.inj H
    clear H
    go_enter Try.func50, Try.ntmps50
    go_wp2_with (first | ((with_reducible refine gate_dst (N := 2) rfl ?_); refine box_event ?hg (N := 2) ?hd (cs := #[.int .i64 a0_0, .int .i64 a0_1, .int .i64 a0_2, .int .i64 a0_3, .slice A0_4 l0_4.length c0_4]) (t := 45) ?hr ?_; (case hd => rfl); (case hg => rfl); (case hr => first | (go_simp; done) | (go_simp; rfl)); intro gf hg w2 hbox hb; have HF := Aside0.mk hbox; have HB2 := Aside0.mk (below_step HB.out hb); clear hbox hb hg; have hxf0 := (blk_cell HF.out 0).trans (show (#[Value.int .i64 a0_0, .int .i64 a0_1, .int .i64 a0_2, .int .i64 a0_3, .slice A0_4 l0_4.length c0_4])[0]? = some (.int .i64 a0_0) from rfl); have hxf1 := (blk_cell HF.out 1).trans (show (#[Value.int .i64 a0_0, .int .i64 a0_1, .int .i64 a0_2, .int .i64 a0_3, .slice A0_4 l0_4.length c0_4])[1]? = some (.int .i64 a0_1) from rfl); have hxf2 := (blk_cell HF.out 2).trans (show (#[Value.int .i64 a0_0, .int .i64 a0_1, .int .i64 a0_2, .int .i64 a0_3, .slice A0_4 l0_4.length c0_4])[2]? = some (.int .i64 a0_2) from rfl); have hxf3 := (blk_cell HF.out 3).trans (show (#[Value.int .i64 a0_0, .int .i64 a0_1, .int .i64 a0_2, .int .i64 a0_3, .slice A0_4 l0_4.length c0_4])[3]? = some (.int .i64 a0_3) from rfl); have hxf4 := (blk_cell HF.out 4).trans (show (#[Value.int .i64 a0_0, .int .i64 a0_1, .int .i64 a0_2, .int .i64 a0_3, .slice A0_4 l0_4.length c0_4])[4]? = some (.slice A0_4 l0_4.length c0_4) from rfl)) | (go_at_call 92; (refine (impl_FrameOk.calls k a0_0 a0_1 a0_2 a0_3 A0_4 c0_4 l0_4 false _ (Kd.C_below HR0_4.out HB2.out) HC0_4.out A1.out).mono ?_); rintro e w3 ⟨rfl, hb⟩; have HB3 := Aside0.mk (below_step HB2.out hb); have HF3 := Aside0.mk (blk_below HF.out hb); clear hb hxf0 hxf1 hxf2 hxf3 hxf4))
    go_ret
    exact ⟨_, rfl, Kd.S_nil _ _ _ _ _, HB3.out⟩
  | true =>
    rw [if_pos rfl] at H
    obtain ⟨t2, A20, H2⟩ := Option.bind_eq_some_iff.mp H
    have A2 := Aside0.mk A20
    clear A20 H
    cases t2 with
    | false =>
      rw [if_neg (by simp)] at H2
      obtain rfl := Option.some.inj H2
      clear H2
      go_enter Try.func50, Try.ntmps50
      go_wp2_with (first | ((with_reducible refine gate_dst (N := 2) rfl ?_); refine box_event ?hg (N := 2) ?hd (cs := #[.int .i64 a0_0, .int .i64 a0_1, .int .i64 a0_2, .int .i64 a0_3, .slice A0_4 l0_4.length c0_4]) (t := 45) ?hr ?_; (case hd => rfl); (case hg => rfl); (case hr => first | (go_simp; done) | (go_simp; rfl)); intro gf hg w2 hbox hb; have HF := Aside0.mk hbox; have HB2 := Aside0.mk (below_step HB.out hb); clear hbox hb hg; have hxf0 := (blk_cell HF.out 0).trans (show (#[Value.int .i64 a0_0, .int .i64 a0_1, .int .i64 a0_2, .int .i64 a0_3, .slice A0_4 l0_4.length c0_4])[0]? = some (.int .i64 a0_0) from rfl); have hxf1 := (blk_cell HF.out 1).trans (show (#[Value.int .i64 a0_0, .int .i64 a0_1, .int .i64 a0_2, .int .i64 a0_3, .slice A0_4 l0_4.length c0_4])[1]? = some (.int .i64 a0_1) from rfl); have hxf2 := (blk_cell HF.out 2).trans (show (#[Value.int .i64 a0_0, .int .i64 a0_1, .int .i64 a0_2, .int .i64 a0_3, .slice A0_4 l0_4.length c0_4])[2]? = some (.int .i64 a0_2) from rfl); have hxf3 := (blk_cell HF.out 3).trans (show (#[Value.int .i64 a0_0, .int .i64 a0_1, .int .i64 a0_2, .int .i64 a0_3, .slice A0_4 l0_4.length c0_4])[3]? = some (.int .i64 a0_3) from rfl); have hxf4 := (blk_cell HF.out 4).trans (show (#[Value.int .i64 a0_0, .int .i64 a0_1, .int .i64 a0_2, .int .i64 a0_3, .slice A0_4 l0_4.length c0_4])[4]? = some (.slice A0_4 l0_4.length c0_4) from rfl)) | (go_at_call 92; (refine (impl_FrameOk.calls k a0_0 a0_1 a0_2 a0_3 A0_4 c0_4 l0_4 true _ (Kd.C_below HR0_4.out HB2.out) HC0_4.out A1.out).mono ?_); rintro e w3 ⟨rfl, hb⟩; have HB3 := Aside0.mk (below_step HB2.out hb); have HF3 := Aside0.mk (blk_below HF.out hb); clear hb hxf0 hxf1 hxf2 hxf3 hxf4) | (go_at_call 101; (refine (impl_within.calls a1 0 2 false _ A2.out).mono ?_); rintro e w4_ ⟨rfl, ⟨nd, rfl⟩⟩; have HB4 := Aside0.mk (pw_below_drewN HB3.out nd); have HF4 := Aside0.mk (blk_drewN HF3.out nd); (obtain ⟨w4, hw4⟩ : ∃ w4, w4 = w3.drewN nd := ⟨_, rfl⟩); (rw [← hw4] at HB4 HF4 ⊢); clear hw4 HB3 HF3; have hx4 := (blk_cell HF4.out 4).trans (show (#[Value.int .i64 a0_0, .int .i64 a0_1, .int .i64 a0_2, .int .i64 a0_3, .slice A0_4 l0_4.length c0_4])[4]? = some (.slice A0_4 l0_4.length c0_4) from rfl); have hlt4 : gf < w4.heap.size := World.block_lt_of_cell? w4 _ hx4; have hlt5 : gf < w4.heap.size + 1 := Nat.lt_succ_of_lt hlt4; have hlt6 : gf < w4.heap.size + 1 + 1 := Nat.lt_succ_of_lt hlt5; have hlt7 : gf < w4.heap.size + 1 + 1 + 1 := Nat.lt_succ_of_lt hlt6))
      go_ret
      exact ⟨_, rfl, Kd.S_nil _ _ _ _ _, HB4.out⟩
    | true =>
      rw [if_pos rfl] at H2
      by_cases hl4 : l0_4.length ≤ 4
      · rw [if_pos hl4] at H2
        obtain rfl := Option.some.inj H2
        clear H2
        go_enter Try.func50, Try.ntmps50
        go_wp2_with (first | ((with_reducible refine gate_dst (N := 2) rfl ?_); refine box_event ?hg (N := 2) ?hd (cs := #[.int .i64 a0_0, .int .i64 a0_1, .int .i64 a0_2, .int .i64 a0_3, .slice A0_4 l0_4.length c0_4]) (t := 45) ?hr ?_; (case hd => rfl); (case hg => rfl); (case hr => first | (go_simp; done) | (go_simp; rfl)); intro gf hg w2 hbox hb; have HF := Aside0.mk hbox; have HB2 := Aside0.mk (below_step HB.out hb); clear hbox hb hg; have hxf0 := (blk_cell HF.out 0).trans (show (#[Value.int .i64 a0_0, .int .i64 a0_1, .int .i64 a0_2, .int .i64 a0_3, .slice A0_4 l0_4.length c0_4])[0]? = some (.int .i64 a0_0) from rfl); have hxf1 := (blk_cell HF.out 1).trans (show (#[Value.int .i64 a0_0, .int .i64 a0_1, .int .i64 a0_2, .int .i64 a0_3, .slice A0_4 l0_4.length c0_4])[1]? = some (.int .i64 a0_1) from rfl); have hxf2 := (blk_cell HF.out 2).trans (show (#[Value.int .i64 a0_0, .int .i64 a0_1, .int .i64 a0_2, .int .i64 a0_3, .slice A0_4 l0_4.length c0_4])[2]? = some (.int .i64 a0_2) from rfl); have hxf3 := (blk_cell HF.out 3).trans (show (#[Value.int .i64 a0_0, .int .i64 a0_1, .int .i64 a0_2, .int .i64 a0_3, .slice A0_4 l0_4.length c0_4])[3]? = some (.int .i64 a0_3) from rfl); have hxf4 := (blk_cell HF.out 4).trans (show (#[Value.int .i64 a0_0, .int .i64 a0_1, .int .i64 a0_2, .int .i64 a0_3, .slice A0_4 l0_4.length c0_4])[4]? = some (.slice A0_4 l0_4.length c0_4) from rfl)) | (go_at_call 92; (refine (impl_FrameOk.calls k a0_0 a0_1 a0_2 a0_3 A0_4 c0_4 l0_4 true _ (Kd.C_below HR0_4.out HB2.out) HC0_4.out A1.out).mono ?_); rintro e w3 ⟨rfl, hb⟩; have HB3 := Aside0.mk (below_step HB2.out hb); have HF3 := Aside0.mk (blk_below HF.out hb); clear hb hxf0 hxf1 hxf2 hxf3 hxf4) | (go_at_call 101; (refine (impl_within.calls a1 0 2 true _ A2.out).mono ?_); rintro e w4_ ⟨rfl, ⟨nd, rfl⟩⟩; have HB4 := Aside0.mk (pw_below_drewN HB3.out nd); have HF4 := Aside0.mk (blk_drewN HF3.out nd); (obtain ⟨w4, hw4⟩ : ∃ w4, w4 = w3.drewN nd := ⟨_, rfl⟩); (rw [← hw4] at HB4 HF4 ⊢); clear hw4 HB3 HF3; have hx4 := (blk_cell HF4.out 4).trans (show (#[Value.int .i64 a0_0, .int .i64 a0_1, .int .i64 a0_2, .int .i64 a0_3, .slice A0_4 l0_4.length c0_4])[4]? = some (.slice A0_4 l0_4.length c0_4) from rfl); have hlt4 : gf < w4.heap.size := World.block_lt_of_cell? w4 _ hx4; have hlt5 : gf < w4.heap.size + 1 := Nat.lt_succ_of_lt hlt4; have hlt6 : gf < w4.heap.size + 1 + 1 := Nat.lt_succ_of_lt hlt5; have hlt7 : gf < w4.heap.size + 1 + 1 + 1 := Nat.lt_succ_of_lt hlt6))
        obtain ⟨N, hN⟩ : ∃ N, N = w4.heap.size := ⟨_, rfl⟩
        have HN : Aside0 (w.heap.size ≤ N) := ⟨by rw [hN]; exact below_size HB4.out⟩
        obtain ⟨f0, f1, f2, f3⟩ := four_boxesS w4 (.cells #[] 3) (.cells #[] 28) (.cells #[.slice (some ⟨w4.heap.size, 0, none⟩) 0 0] 22) (.cells #[.slice (some ⟨w4.heap.size + 1, 0, none⟩) 0 0] 46)
        have HB5 : Aside0 (Below w.heap.size w ((((w4.alloc (.cells #[] 3)).alloc (.cells #[] 28)).alloc (.cells #[.slice (some ⟨w4.heap.size, 0, none⟩) 0 0] 22)).alloc (.cells #[.slice (some ⟨w4.heap.size + 1, 0, none⟩) 0 0] 46))) := ⟨by repeat (first | exact HB4.out | apply below_alloc)⟩
        generalize ((((w4.alloc (.cells #[] 3)).alloc (.cells #[] 28)).alloc (.cells #[.slice (some ⟨w4.heap.size, 0, none⟩) 0 0] 22)).alloc (.cells #[.slice (some ⟨w4.heap.size + 1, 0, none⟩) 0 0] 46)) = W1 at f0 f1 f2 f3 HB5 ⊢
        clear hx4 hlt4 hlt5 hlt6 hlt7 HF4 HB4
        rw [← hN] at f0 f1 f2 f3 ⊢
        clear hN
        have HA := Aside0.mk f2
        have HO := Aside0.mk f3
        have HRA : Aside0 (Kd.R (Kd.int .i64) 3 W1 w.heap.size (fun _ => True) (.slice (some ⟨N, 0, none⟩) 0 0) []) := ⟨Kd.R_of_own (enc := Value.int .i64) ⟨rfl, .inr ⟨N, 0, #[], rfl, HN.out, f0, Nat.le_refl _, Nat.zero_le _, rfl, rfl⟩⟩ (fun _ _ => trivial)⟩
        have HRO := Aside0.mk f1
        clear f0 f1 f2 f3
        have hne : N + 1 + 1 ≠ N + 1 + 1 + 1 := by omega
        have HGA : Aside0 (w.heap.size ≤ N + 1 + 1) := ⟨by have := HN.out; omega⟩
        have HGO : w.heap.size ≤ N + 1 + 1 + 1 := by have := HN.out; omega
        have HL := Aside0.mk hl4
        clear hl4

        go_loopg [23] l0_4.length (fun kq v23 w' => ∃ (i : Nat) (v : Value), v23 = .int .i64 (i : Int) ∧ Aside0 (i ≤ l0_4.length ∧ l0_4.length - i ≤ kq) ∧ Aside0 (w'.heap[N + 1 + 1]? = some (.cells #[v] 22 (0, 0))) ∧ Aside0 (w'.heap[N + 1 + 1 + 1]? = some (.cells #[.slice (some ⟨N + 1, 0, none⟩) 0 0] 46 (0, 0))) ∧ Aside0 (Kd.R (Kd.int .i64) 3 w' w.heap.size (fun _ => True) v (numsC i)) ∧ Aside0 (w'.heap[N + 1]? = some (.cells #[] 28 (0, 0))) ∧ Aside0 (Below w.heap.size w w'))
        case atStart => exact ⟨0, _, rfl, ⟨by omega⟩, HA, HO, HRA, HRO, HB5⟩
        case round =>
          clear HA HO HRA HRO HB5
          obtain ⟨i, v, rfl, HI, HA, HO, HRA, HRO, HB⟩ := hrel
          by_cases c1 : i < l0_4.length
          · have c1b : decide ((i : Int) < (l0_4.length : Int)) = true := decide_eq_true (by omega)
            have hy := (blk_cell HA.out 0).trans (show (#[v])[0]? = some v from rfl)
            have hlt := World.block_lt_of_cell? wr _ hy
            go_wp2_with (first
              | ((with_reducible refine gate_builtin (b := .append) (xs := #[.tmp 26, .tmp 28]) rfl ?_); at_builtin; refine Kd.R_append (Kd.int .i64) (w0 := w) w.heap.size rfl (.tmp 26) (.tmp 28) 22 3 (.int .i64 0) 8 rfl Try.underlying22 info3 rfl (by decide) (by omega) v (numsC i) (i : Int) [.int .i64 (i : Int)] (fun _ => True) (fun _ => False) rfl rfl ?aP (fun _ hk => hk.elim) ?aF ?aO ?aB ?aS ?aL ?_; (case aP => rfl); (case aF => exact (fun _ _ => trivial)); (case aO => exact HRA.out); (case aB => exact HB.out); (case aS => exact (below_size HB.out)); (case aL => have := HL.out; rw [numsC_length]; omega); intro v12 w12 ho hb hg hat; rw [← numsC_succ] at ho; obtain ⟨A12, c12, e12⟩ := Kd.R_slice ho; subst e12; have n0_ := Aside0.mk ho; have n1_ := Aside0.mk (blk_grown HRO.out hg (Kd.R_ne HRA.out HRO.out (by decide))); have n2_ := Aside0.mk (blk_grown HA.out hg (Kd.R_ne HRA.out HA.out (by decide))); have n3_ := Aside0.mk (blk_grown HO.out hg (Kd.R_ne HRA.out HO.out (by decide))); have n4_ := Aside0.mk hb; clear HRO HRA HA HO HB hlt hy ho hb hg hat; have HRA := n0_; have HRO := n1_; have HA := n2_; have HO := n3_; have HB := n4_; clear n0_ n1_ n2_ n3_ n4_; have hx12 := (blk_cell HA.out 0).trans (show (#[v])[0]? = some v from rfl); have hf12 := blk_frozen HA.out 0))
            go_roundg (l0_4.length - (i + 1))
            case measure => have := HI.out; omega
            case rel => exact ⟨i + 1, _, by rw [show wrap64 ((i : Int) + 1) = ((i + 1 : Nat) : Int) from by have := HL.out; rw [w64 (by omega) (by omega)]; omega], ⟨by have := HI.out; omega⟩, ⟨blk_put HA.out 0 _ rfl⟩, ⟨blk_far HO.out (p := ⟨N + 1 + 1, 0, none⟩) (Ne.symm hne) _⟩, ⟨Kd.R_set HRA.out HA.out (by decide) 0 _⟩, ⟨blk_far HRO.out (p := ⟨N + 1 + 1, 0, none⟩) (by simp) _⟩, ⟨below_set HB.out HGA.out⟩⟩
          · have c1b : decide ((i : Int) < (l0_4.length : Int)) = false := decide_eq_false (by omega)
            have ei : i = l0_4.length := by have := HI.out; omega
            rw [ei] at HRA
            clear ei HI
            have HRO2 := Aside0.mk (empty_rowS (base := w.heap.size) HRO.out (by have := HN.out; omega))
            clear HRO
            have HRO := HRO2
            clear HRO2
            obtain ⟨Aa, ca, eA⟩ := Kd.R_slice HRA.out
            subst eA
            have hmf : ∀ (fn : Fn) (first cap : Array Value) (w : World), (Instr.makeFunc fn first cap).run Try.prog w = .ok (.func fn first cap) w := fun _ _ _ _ => rfl
            have hul := Try.underlying28
            have hy := (blk_cell HO.out 0).trans (show (#[Value.slice (some ⟨N + 1, 0, none⟩) 0 0])[0]? = some (.slice (some ⟨N + 1, 0, none⟩) 0 0) from rfl)
            by_cases k0 : a1 = 0
            · subst k0
              go_wp2_with (first | (go_at_call 103; refine (together_walk (N + 1 + 1) (N + 1 + 1 + 1) (numsC l0_4.length) Aa ca (.slice (some ⟨N + 1, 0, none⟩) 0 0) [] 0 63 0 0 w _ hne HA.out HO.out HRA.out HRO.out HB.out HGO (by rw [numsC_length]; have := HL.out; omega) (by simp only [List.length_append, List.length_cons, List.length_nil, eachL_length, numsC_length]; have := HL.out; omega)).mono ?_; rintro e w61 ⟨rfl, ha_, ⟨v61, ho_, hro_⟩, hra_, hb_⟩; clear HA HO HRA HRO HB; (try clear hy); have HA := Aside0.mk ha_; have HO := Aside0.mk ho_; have HRA := Aside0.mk hra_; have HRO := Aside0.mk hro_; have HB := Aside0.mk hb_; clear ha_ ho_ hra_ hro_ hb_; have hy := (blk_cell HO.out 0).trans (show (#[v61])[0]? = some v61 from rfl); have hly61 := World.block_lt_of_cell? w61 _ hy))
              go_ret
              exact ⟨_, rfl, HRO.out, HB.out⟩
            · have k0b : (a1 == 0) = false := beq_eq_false_iff_ne.mpr k0
              by_cases k1 : a1 = 1
              · subst k1
                go_wp2_with (first | (go_at_call 102; refine (each_lit (N + 1 + 1) (N + 1 + 1 + 1) (numsC l0_4.length) Aa ca (.slice (some ⟨N + 1, 0, none⟩) 0 0) [] [(⟨[], 0, 63, 0, 0⟩ : S28)] [.slice none 0 0, .int .i64 0, .int .i64 63, .int .i64 0, .int .i64 0] w _ hne HA.out HO.out HRA.out HRO.out HB.out HGO (by rw [numsC_length]; exact HL.out) (by simp) (by simp only [List.length_append, List.length_cons, List.length_nil, eachL_length, numsC_length]; have := HL.out; omega) (fun W' ok => pass1 W' _ ok 0 63 0 0)).mono ?_; rintro e w61 ⟨rfl, ha_, ⟨v61, ho_, hro_⟩, hra_, hb_⟩; clear HA HO HRA HRO HB; (try clear hy); have HA := Aside0.mk ha_; have HO := Aside0.mk ho_; have HRA := Aside0.mk hra_; have HRO := Aside0.mk hro_; have HB := Aside0.mk hb_; clear ha_ ho_ hra_ hro_ hb_; have hy := (blk_cell HO.out 0).trans (show (#[v61])[0]? = some v61 from rfl); have hly61 := World.block_lt_of_cell? w61 _ hy))
                go_ret
                exact ⟨_, rfl, HRO.out, HB.out⟩
              · have k1b : (a1 == 1) = false := beq_eq_false_iff_ne.mpr k1
                go_wp2_with (first | (go_at_call 102; refine (each_lit (N + 1 + 1) (N + 1 + 1 + 1) (numsC l0_4.length) Aa ca v64 (((([] ++ [(⟨(numsC l0_4.length), 0, 0, 0, 1⟩ : S28)]) ++ eachL (numsC l0_4.length) [(⟨[], 1, 5, 0, 2⟩ : S28), (⟨[], 6, 63, 0, 2⟩ : S28)]) ++ eachL (numsC l0_4.length) [(⟨[], 1, 63, 2, 1⟩ : S28)]) ++ [(⟨(numsC l0_4.length), 0, 0, 1, 0⟩ : S28)]) [(⟨[], 1, 63, 1, 0⟩ : S28)] [.slice none 0 0, .int .i64 1, .int .i64 63, .int .i64 1, .int .i64 0] w _ hne HA.out HO.out HRA.out HRO.out HB.out HGO (by rw [numsC_length]; exact HL.out) (by simp) (by simp only [List.length_append, List.length_cons, List.length_nil, eachL_length, numsC_length]; have := HL.out; omega) (fun W' ok => pass1 W' _ ok 1 63 1 0)).mono ?_; rintro e w65 ⟨rfl, ha_, ⟨v65, ho_, hro_⟩, hra_, hb_⟩; clear HA HO HRA HRO HB; (try clear hy); have HA := Aside0.mk ha_; have HO := Aside0.mk ho_; have HRA := Aside0.mk hra_; have HRO := Aside0.mk hro_; have HB := Aside0.mk hb_; clear ha_ ho_ hra_ hro_ hb_; have hy := (blk_cell HO.out 0).trans (show (#[v65])[0]? = some v65 from rfl); have hly65 := World.block_lt_of_cell? w65 _ hy) | (go_at_call 103; refine (together_walk (N + 1 + 1) (N + 1 + 1 + 1) (numsC l0_4.length) Aa ca v63 ((([] ++ [(⟨(numsC l0_4.length), 0, 0, 0, 1⟩ : S28)]) ++ eachL (numsC l0_4.length) [(⟨[], 1, 5, 0, 2⟩ : S28), (⟨[], 6, 63, 0, 2⟩ : S28)]) ++ eachL (numsC l0_4.length) [(⟨[], 1, 63, 2, 1⟩ : S28)]) 0 0 1 0 w _ hne HA.out HO.out HRA.out HRO.out HB.out HGO (by rw [numsC_length]; have := HL.out; omega) (by simp only [List.length_append, List.length_cons, List.length_nil, eachL_length, numsC_length]; have := HL.out; omega)).mono ?_; rintro e w64 ⟨rfl, ha_, ⟨v64, ho_, hro_⟩, hra_, hb_⟩; clear HA HO HRA HRO HB; (try clear hy); have HA := Aside0.mk ha_; have HO := Aside0.mk ho_; have HRA := Aside0.mk hra_; have HRO := Aside0.mk hro_; have HB := Aside0.mk hb_; clear ha_ ho_ hra_ hro_ hb_; have hy := (blk_cell HO.out 0).trans (show (#[v64])[0]? = some v64 from rfl); have hly64 := World.block_lt_of_cell? w64 _ hy) | (go_at_call 102; refine (each_lit (N + 1 + 1) (N + 1 + 1 + 1) (numsC l0_4.length) Aa ca v62 (([] ++ [(⟨(numsC l0_4.length), 0, 0, 0, 1⟩ : S28)]) ++ eachL (numsC l0_4.length) [(⟨[], 1, 5, 0, 2⟩ : S28), (⟨[], 6, 63, 0, 2⟩ : S28)]) [(⟨[], 1, 63, 2, 1⟩ : S28)] [.slice none 0 0, .int .i64 1, .int .i64 63, .int .i64 2, .int .i64 1] w _ hne HA.out HO.out HRA.out HRO.out HB.out HGO (by rw [numsC_length]; exact HL.out) (by simp) (by simp only [List.length_append, List.length_cons, List.length_nil, eachL_length, numsC_length]; have := HL.out; omega) (fun W' ok => pass1 W' _ ok 1 63 2 1)).mono ?_; rintro e w63 ⟨rfl, ha_, ⟨v63, ho_, hro_⟩, hra_, hb_⟩; clear HA HO HRA HRO HB; (try clear hy); have HA := Aside0.mk ha_; have HO := Aside0.mk ho_; have HRA := Aside0.mk hra_; have HRO := Aside0.mk hro_; have HB := Aside0.mk hb_; clear ha_ ho_ hra_ hro_ hb_; have hy := (blk_cell HO.out 0).trans (show (#[v63])[0]? = some v63 from rfl); have hly63 := World.block_lt_of_cell? w63 _ hy) | (go_at_call 102; refine (each_lit (N + 1 + 1) (N + 1 + 1 + 1) (numsC l0_4.length) Aa ca v61 ([] ++ [(⟨(numsC l0_4.length), 0, 0, 0, 1⟩ : S28)]) [(⟨[], 1, 5, 0, 2⟩ : S28), (⟨[], 6, 63, 0, 2⟩ : S28)] [.slice none 0 0, .int .i64 1, .int .i64 5, .int .i64 0, .int .i64 2, .slice none 0 0, .int .i64 6, .int .i64 63, .int .i64 0, .int .i64 2] w _ hne HA.out HO.out HRA.out HRO.out HB.out HGO (by rw [numsC_length]; exact HL.out) (by simp) (by simp only [List.length_append, List.length_cons, List.length_nil, eachL_length, numsC_length]; have := HL.out; omega) (fun W' ok => pass2 W' _ ok 1 5 0 2 6 63 0 2)).mono ?_; rintro e w62 ⟨rfl, ha_, ⟨v62, ho_, hro_⟩, hra_, hb_⟩; clear HA HO HRA HRO HB; (try clear hy); have HA := Aside0.mk ha_; have HO := Aside0.mk ho_; have HRA := Aside0.mk hra_; have HRO := Aside0.mk hro_; have HB := Aside0.mk hb_; clear ha_ ho_ hra_ hro_ hb_; have hy := (blk_cell HO.out 0).trans (show (#[v62])[0]? = some v62 from rfl); have hly62 := World.block_lt_of_cell? w62 _ hy) | (go_at_call 103; refine (together_walk (N + 1 + 1) (N + 1 + 1 + 1) (numsC l0_4.length) Aa ca (.slice (some ⟨N + 1, 0, none⟩) 0 0) [] 0 0 0 1 w _ hne HA.out HO.out HRA.out HRO.out HB.out HGO (by rw [numsC_length]; have := HL.out; omega) (by simp only [List.length_append, List.length_cons, List.length_nil, eachL_length, numsC_length]; have := HL.out; omega)).mono ?_; rintro e w61 ⟨rfl, ha_, ⟨v61, ho_, hro_⟩, hra_, hb_⟩; clear HA HO HRA HRO HB; (try clear hy); have HA := Aside0.mk ha_; have HO := Aside0.mk ho_; have HRA := Aside0.mk hra_; have HRO := Aside0.mk hro_; have HB := Aside0.mk hb_; clear ha_ ho_ hra_ hro_ hb_; have hy := (blk_cell HO.out 0).trans (show (#[v61])[0]? = some v61 from rfl); have hly61 := World.block_lt_of_cell? w61 _ hy))
                go_ret
                exact ⟨_, rfl, by have h_ := HRO.out; unfold scriptV; rw [if_neg k0, if_neg k1]; exact h_, HB.out⟩
      · rw [if_neg hl4] at H2
        exact absurd H2 (by simp)
def scriptI (p w h r : Int) (l : List S42) (kind : Int) : List S28 := if frameB p w h r l = true ∧ inR kind 0 2 = true then scriptV l.length kind else []
theorem iScriptFor_f (p w h r : Int) (l : List S42) (hl : l.length ≤ 1048576) (kind : Int) : Ev (fun k => impl_ScriptFor.f k p w h r l kind) (scriptI p w h r l kind) := by
  unfold impl_ScriptFor.f scriptI
  refine evBind (iFrameOk_f p w h r l hl) (evIf (fun hb => ?_) (fun hb => ?_))
  · refine evBind (evConst (within_f kind 0 2)) (evIf (fun hk => ?_) (fun hk => ?_))
    · rw [if_pos (show frameB p w h r l = true ∧ inR kind 0 2 = true from ⟨hb, hk⟩)]
      exact evPos (frame_len hb).2 (Ev.now _)
    · rw [if_neg (show ¬ (frameB p w h r l = true ∧ inR kind 0 2 = true) from fun hc => hk hc.2)]
      exact Ev.now _
  · rw [if_neg (show ¬ (frameB p w h r l = true ∧ inR kind 0 2 = true) from fun hc => hb hc.1)]
    exact Ev.now _
theorem eachL_mem {all : List Int} {ps : List S28} {x : S28} (h : x ∈ eachL all ps) : x.f0.length = 1 := by
  simp only [eachL, List.mem_flatMap, List.mem_map] at h
  obtain ⟨c, _, s, _, rfl⟩ := h
  rfl
theorem scriptV_ok {n : Nat} (hn : n ≤ 4) (kind : Int) : (scriptV n kind).length ≤ 20 ∧ ∀ x ∈ scriptV n kind, x.f0.length ≤ 4 := by
  have hc := numsC_length n
  unfold scriptV
  split
  · refine ⟨by simp, fun x hx => ?_⟩
    obtain rfl := List.mem_singleton.1 hx
    show (numsC n).length ≤ 4
    omega
  · split
    · refine ⟨by rw [List.length_append, eachL_length, hc]; simp only [List.length_nil, List.length_cons]; omega, fun x hx => ?_⟩
      have := eachL_mem (show x ∈ eachL (numsC n) _ from hx)
      omega
    · refine ⟨by simp only [List.length_append, eachL_length, hc, List.length_nil, List.length_cons]; omega, fun x hx => ?_⟩
      simp only [List.mem_append, List.mem_singleton, List.not_mem_nil, false_or] at hx
      rcases hx with (((h | h) | h) | h) | h
      · subst h; show (numsC n).length ≤ 4; omega
      · have := eachL_mem h; omega
      · have := eachL_mem h; omega
      · subst h; show (numsC n).length ≤ 4; omega
      · have := eachL_mem h; omega
theorem scriptI_ok (p w h r : Int) (l : List S42) (kind : Int) : (scriptI p w h r l kind).length ≤ 20 ∧ ∀ x ∈ scriptI p w h r l kind, x.f0.length ≤ 4 := by
  unfold scriptI
  by_cases hb : frameB p w h r l = true ∧ inR kind 0 2 = true
  · rw [if_pos hb]
    exact scriptV_ok (frame_len hb.1).2 kind
  · rw [if_neg hb]
    exact ⟨by simp, fun x hx => by simp at hx⟩
theorem eachL_drop {n j : Nat} (h : j < n) (ps : List S28) : eachL ((numsC n).drop j) ps = ps.map (oneS (j : Int)) ++ eachL ((numsC n).drop (j + 1)) ps := by
  have hj : j < (numsC n).length := by rw [numsC_length]; exact h
  rw [List.drop_eq_getElem_cons hj]
  have e : (numsC n)[j] = (j : Int) := by simp [numsC]
  rw [e]
  rfl

end Go.Proofs.Ythajjjpblkhmmaa.CW
