/- Functions that a law of this seat reaches: written by a program of this session (wip/xprint.py), and by hand. -/
import Derived.Test.YtdeheflbigggbaaCBx0
import Derived.Test.YtdeheflbigggbaaCBx1
import Derived.Test.YtdeheflbigggbaaCBx2
import Derived.Test.YtdeheflbigggbaaCBx3
import Derived.Test.YtdeheflbigggbaaCBx5
namespace Go.Proofs.Ytdeheflbigggbaa.CB
open Go.RowKit Go.Proofs.Ytdeheflbigggbaa.B Go.Proofs.YtdeheflbigggbaaW.PrintWords Go.Proofs.YtdeheflbigggbaaW.PrintLast Go.Proofs.YtdeheflbigggbaaW.PrintMore
attribute [local go_sem] max2_int min2_int max_two min_two max_three min_three max_four min_four   -- for this text's walks alone
set_option linter.unusedVariables false
set_option linter.unusedSimpArgs false

theorem binB_iff (x : S31) : binB x = true ↔ (0 ≤ x.f0 ∧ x.f0 < 400) ∧ 0 ≤ x.f1 ∧ x.f1 < 2 := by
  simp only [binB, Bool.and_eq_true, inR_iff]
  omega
theorem bytes_of_bool {l : List Int} (h : BytesOk l) : bytesB l = true := List.all_eq_true.2 (fun x hx => by have := h x hx; simp [this])
theorem back_bits (l : List S31) (hl : l.length ≤ 200000) (hall : l.all binB = true) (e : List Int) (he : BytesOk e) (hel : e.length ≤ 10) :
    impl_DecodeBins.f (encodeI l ++ e) (l.map (·.f0)) = some (l.map (·.f1)) := by
  have hok := binsB_ok hall
  have hB : binsB l = true := by
    unfold binsB
    rw [hall, Bool.true_and]
    exact decide_eq_true (by omega)
  have hE : encodeI l = encL (l.map pairB) := by unfold encodeI; rw [if_pos hB]
  have hby : BytesOk (encL (l.map pairB)) := (end_val (puts_ok _ start_ok hok)).2.2
  have hlen := encL_length (l.map pairB)
  rw [List.length_map] at hlen
  have hd := dec_enc (l.map pairB) hok e he
  rw [List.map_map, List.map_map] at hd
  have hctx : allR (l.map (·.f0)) 0 399 = true := List.all_eq_true.2 (fun c hc => by
    obtain ⟨x, hx, rfl⟩ := List.mem_map.1 hc
    have := (binB_iff x).1 (List.all_eq_true.1 hall x hx)
    exact inR_iff.2 (by omega))
  have hbb : bytesB (encodeI l ++ e) = true := by
    rw [hE]
    exact bytes_of_bool (fun x hx => by
      rcases List.mem_append.1 hx with h | h
      · exact hby x h
      · exact he x h)
  have hll : (encodeI l ++ e).length ≤ 4611686018427387904 := by
    rw [hE, List.length_append]
    omega
  have hcl : (l.map (·.f0)).length ≤ 4611686018427387904 := by
    rw [List.length_map]
    omega
  unfold impl_DecodeBins.f
  rw [if_pos ⟨hbb, hll, hcl⟩]
  unfold decodeI
  rw [List.length_map, decide_eq_true hl, hctx, hE]
  exact congrArg some hd
theorem binsBack_l1 (l : List S31) (hl : l.length ≤ 200000) : ∀ (d i : Nat), i + d = l.length → Ev (fun k => laws_FnBinsBack.l1 k l (l.map (·.f1)) i) true := by
  intro d
  induction d with
  | zero =>
    intro i hi
    exact Ev.step (fun k => by rw [laws_FnBinsBack.l1]) (evNeg (by omega) (Ev.now _))
  | succ d ih =>
    intro i hi
    have h1 : i < l.length := by omega
    refine Ev.step (fun k => by rw [laws_FnBinsBack.l1]) (evPos (by omega) (evPos (by omega) (evPos (by rw [List.length_map]; omega) (evPos ?_ ?_))))
    · rw [rd_nat (by rw [List.length_map]; exact h1), rdT_nat h1]
      simp
    · rw [w64 (by omega) (by omega)]
      exact ih (i + 1) (by omega)
theorem binsBack_l0 (code : List Int) (hc : CodeOk code) (l : List S31) (hl : l.length ≤ 1000) : ∀ (d i : Nat), i + d = l.length →
    Ev (fun k => laws_FnBinsBack.l0 k code l (encodeI l) ((l.map (·.f0)).take i) ((l.take i).all binB) i) true := by
  intro d
  induction d with
  | zero =>
    intro i hi
    refine Ev.step (fun k => by rw [laws_FnBinsBack.l0]) (evNeg (by omega) ?_)
    rw [List.take_of_length_le (show (l.map (·.f0)).length ≤ i by rw [List.length_map]; omega), List.take_of_length_le (show l.length ≤ i by omega)]
    refine evIf (fun hall => ?_) (fun hall => ?_)
    · have hx := back_bits l (by omega) hall [] (fun x hx => by cases hx) (by simp)
      rw [List.append_nil] at hx
      have hlen : (encodeI l).length ≤ 300000 := by
        unfold encodeI
        split
        · have := encL_length (l.map pairB)
          rw [List.length_map] at this
          omega
        · simp
      obtain ⟨r, hr, h0, h1⟩ := lpickP code hc 0 256 (by omega) (by omega) (by omega) (by omega)
      have hy := back_bits l (by omega) hall [r % 256, 1] (fun x hx => by
        simp only [List.mem_cons, List.not_mem_nil, or_false] at hx
        omega) (by simp)
      refine evBind (evConst hx) (evBind (Ev.now _) (evPos (by simp; omega) (evBind (Ev.now _) (evBind hr (evBind (Ev.now _) (evPos (by simp; omega) ?_))))))
      rw [List.nil_append]
      refine evBind (evConst hy) (evPos (by rw [List.length_map]) (evBind (sameInts_f _ (by rw [List.length_map]; omega)) ?_))
      refine Ev.step (fun k => by rw [laws_FnBinsBack.j1]) (evNeg (by simp) ?_)
      exact binsBack_l1 l (by omega) l.length 0 (by omega)
    · have hE : encodeI l = [] := by
        unfold encodeI binsB
        rw [Bool.eq_false_iff.2 hall, Bool.false_and]
        rfl
      rw [hE]
      exact Ev.now _
  | succ d ih =>
    intro i hi
    have h1 : i < l.length := by omega
    have e1 : (l.map (·.f0)).take (i + 1) = (l.map (·.f0)).take i ++ [l[i].f0] := by
      rw [List.take_succ_eq_append_getElem (by rw [List.length_map]; exact h1)]
      simp
    have e2 : (l.take (i + 1)).all binB = ((l.take i).all binB && binB l[i]) := by
      rw [List.take_succ_eq_append_getElem h1, List.all_append]
      simp
    have hih := ih (i + 1) (by omega)
    rw [e1, e2] at hih
    refine Ev.step (fun k => by rw [laws_FnBinsBack.l0]) (evPos (by omega) (evPos (by omega) (evPos (by rw [List.length_take, List.length_map]; omega) (evBind (Ev.now _) ?_))))
    rw [rdT_nat h1, w64 (by omega) (by omega)]
    rw [show (i : Int) + 1 = ((i + 1 : Nat) : Int) from by omega]
    have bi := binB_iff l[i]
    generalize (l.take i).all binB = q at hih ⊢
    have no : ¬ binB l[i] = true → Ev (fun k => laws_FnBinsBack.l0 k code l (encodeI l) ((l.map (·.f0)).take i ++ [l[i].f0]) false ((i + 1 : Nat) : Int)) true := fun hn => by
      rw [Bool.eq_false_iff.2 hn, Bool.and_false] at hih
      exact hih
    refine evIf (fun hq => evIf (fun c1 => evIf (fun c2 => evIf (fun c3 => ?_) (fun c3 => no (fun h => c3 (bi.1 h).2.1))) (fun c2 => no (fun h => c2 (bi.1 h).1.2))) (fun c1 => no (fun h => c1 (bi.1 h).1.1))) (fun hq => ?_)
    · rw [hq, Bool.true_and] at hih
      rw [show decide (l[i].f1 < 2) = binB l[i] from by
        by_cases h2 : l[i].f1 < 2
        · rw [decide_eq_true h2]; exact (bi.2 ⟨⟨c1, c2⟩, c3, h2⟩).symm
        · rw [decide_eq_false h2]; exact (Bool.eq_false_iff.2 (fun h => h2 (bi.1 h).2.2)).symm]
      exact hih
    · rw [Bool.eq_false_iff.2 hq, Bool.false_and] at hih
      exact hih
theorem pure_BinsBack : laws_FnBinsBack.Pure := by
  intro code hq
  refine Ev.rounds (g := fun k => laws_FnBinsBack.f k code) ?_
  unfold laws_FnBinsBack.f
  refine evBind (evConst (big_f code)) (evIf (fun _ => Ev.now _) (fun hb => ?_))
  have hc : CodeOk code := ⟨by have := of_decide_eq_false (Bool.eq_false_iff.2 hb); omega, fun y hy => wf8 (hq.2 y hy)⟩
  obtain ⟨l, hd, hl⟩ := drawEncodeP code hc
  have hlen := encodeI_length l
  refine evBind hd (evBind (evConst (iEncode_f l (by omega))) (evBind (evConst (sEncode_f l (by omega))) (evBind (sameBytes_f _ (by omega)) (evPos rfl ?_))))
  exact binsBack_l0 code hc l hl l.length 0 (by omega)

end Go.Proofs.Ytdeheflbigggbaa.CB
