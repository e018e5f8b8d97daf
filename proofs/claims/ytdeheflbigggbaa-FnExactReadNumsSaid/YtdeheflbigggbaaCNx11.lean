/- Functions that a law of this seat reaches: written by a program of this session (wip/xprint.py), and by hand. -/
import Derived.Test.YtdeheflbigggbaaCNx0
import Derived.Test.YtdeheflbigggbaaCNx5
import Derived.Test.YtdeheflbigggbaaCNx10
namespace Go.Proofs.Ytdeheflbigggbaa.CN
open Go.RowKit Go.Proofs.Ytdeheflbigggbaa.B Go.Proofs.YtdeheflbigggbaaW.PrintWords Go.Proofs.YtdeheflbigggbaaW.PrintLast Go.Proofs.YtdeheflbigggbaaW.PrintMore
attribute [local go_sem] max2_int min2_int max_two min_two max_three min_three max_four min_four   -- for this text's walks alone
set_option linter.unusedVariables false
set_option linter.unusedSimpArgs false

/-! ### spec_l09Out_lay: function 103 (by hand) -/
theorem slik_grown {W W1 : World} {B g : Nat} {lik : List Int} {B' : Nat} {v' : Value} {ys : List Int} (h : SLikAt W B g lik) (h' : Kd.R (Kd.int .u8) 5 W B' (fun _ => True) v' ys) (hg : W.grownBy W1 v'.ownBlock) : SLikAt W1 B g lik := by
  obtain ⟨hB, v, G, hR⟩ := h
  exact ⟨hB, v, blk_grown G hg (Kd.R_ne h' G (by decide)), row_kept hR h' (by decide) hg⟩
theorem slik_far {W : World} {B g : Nat} {lik : List Int} (h : SLikAt W B g lik) {b : Nat} {cs : Array Value} {t : TypeId} (hb : W.heap[b]? = some (.cells cs t (0, 0))) (h1 : 3 ≠ t) (h2 : 110 ≠ t) (i : Nat) (u : Value) : SLikAt (W.setCell ⟨b, i, none⟩ u) B g lik := by
  obtain ⟨hB, v, G, hR⟩ := h
  exact ⟨hB, v, blk_far G (blk_ne G hb h2) _, Kd.R_set hR hb (fun q hq => by rcases List.mem_singleton.1 hq with rfl; exact h1) i u⟩
theorem slik_far8 {W : World} {B g : Nat} {lik : List Int} (h : SLikAt W B g lik) {b : Nat} {cs : Array Value} (hb : W.heap[b]? = some (.cells cs 5 (0, 0))) (i : Nat) (u : Value) : SLikAt (W.setCell ⟨b, i, none⟩ u) B g lik := slik_far h hb (by decide) (by decide) i u
def SEncAt (W : World) (B b g : Nat) (s : Enc) : Prop :=
  SLikAt W B g s.lik ∧ B ≤ b ∧ ∃ v, W.heap[b]? = some (.cells #[.pointer (some ⟨g, 0, none⟩), .int .i64 s.low, .int .i64 s.width, v] 108 (0, 0)) ∧ Kd.R (Kd.int .u8) 5 W B (fun _ => True) v s.out
theorem senc_put {W : World} {B b g : Nat} {lik : List Int} {low width : Int} {v v1 : Value} {out : List Int} (G : W.heap[b]? = some (.cells #[.pointer (some ⟨g, 0, none⟩), .int .i64 low, .int .i64 width, v] 108 (0, 0)))
    (L : SLikAt W B g lik) (hB : B ≤ b) (ho : Kd.R (Kd.int .u8) 5 W B (fun _ => True) v1 out) : SEncAt (W.setCell ⟨b, 3, none⟩ v1) B b g ⟨lik, low, width, out⟩ := by
  refine ⟨slik_far L G (by decide) (by decide) 3 v1, hB, v1, ?_, Kd.R_set ho G (by decide) 3 v1⟩
  rw [blk_set G 3]
  rfl
theorem senc_low {W : World} {B b g : Nat} {s : Enc} (h : SEncAt W B b g s) (x : Int) : SEncAt (W.setCell ⟨b, 1, none⟩ (.int .i64 x)) B b g ⟨s.lik, x, s.width, s.out⟩ := by
  obtain ⟨L, hB, v, G, ho⟩ := h
  refine ⟨slik_far L G (by decide) (by decide) 1 _, hB, v, ?_, Kd.R_set ho G (by decide) 1 _⟩
  rw [blk_set G 1]
  rfl
theorem senc_width {W : World} {B b g : Nat} {s : Enc} (h : SEncAt W B b g s) (x : Int) : SEncAt (W.setCell ⟨b, 2, none⟩ (.int .i64 x)) B b g ⟨s.lik, s.low, x, s.out⟩ := by
  obtain ⟨L, hB, v, G, ho⟩ := h
  refine ⟨slik_far L G (by decide) (by decide) 2 _, hB, v, ?_, Kd.R_set ho G (by decide) 2 _⟩
  rw [blk_set G 2]
  rfl
theorem senc_drew {W : World} {B b g : Nat} {s : Enc} (h : SEncAt W B b g s) : SEncAt W.drew B b g s := h
theorem senc_drewN {W : World} {B b g : Nat} {s : Enc} (h : SEncAt W B b g s) (n : Nat) : SEncAt (W.drewN n) B b g s := h
theorem senc_lt {W : World} {B b g : Nat} {s : Enc} (h : SEncAt W B b g s) : B ≤ W.heap.size := by
  obtain ⟨L, hB, v, G, ho⟩ := h
  have := blk_lt G
  omega
theorem senc_cells {W : World} {B b g : Nat} {lik : List Int} {low width : Int} {out : List Int} (h : SEncAt W B b g ⟨lik, low, width, out⟩) :
    W.cell? ⟨b, 0, none⟩ = some (.pointer (some ⟨g, 0, none⟩)) ∧ W.cell? ⟨b, 1, none⟩ = some (.int .i64 low) ∧ W.cell? ⟨b, 2, none⟩ = some (.int .i64 width) ∧ W.frozen? ⟨b, 1, none⟩ = false ∧ W.frozen? ⟨b, 2, none⟩ = false ∧ b < W.heap.size := by
  obtain ⟨L, hB, v, G, ho⟩ := h
  exact ⟨(blk_cell G 0).trans rfl, (blk_cell G 1).trans rfl, (blk_cell G 2).trans rfl, blk_frozen G 1, blk_frozen G 2, blk_lt G⟩
set_option maxHeartbeats 4000000 in
set_option maxRecDepth 100000 in
theorem sLay_calls (B b g : Nat) (lik : List Int) (low width : Int) (out : List Int) (w : World) (h : SEncAt w B b g ⟨lik, low, width, out⟩) (ho : BytesOk out) (h0 : 0 ≤ low) (h1 : low < 8589934592) (hl : out.length ≤ 100000000) :
    Calls Try.prog 103 #[.pointer (some ⟨b, 0, none⟩)] w fun e w' => e = .returned (.tuple #[]) ∧ SEncAt w' B b g ⟨lik, low % 16777216 * 256, width, layL out (low / 16777216)⟩ ∧ Below B w w' := by
  have HS := Aside0.mk (senc_lt h)
  obtain ⟨L, hP, v, G, hR⟩ := h
  have HL := Aside0.mk L
  have HP := Aside0.mk hP
  have HG := Aside0.mk G
  have HO := Aside0.mk hR
  have HN := Aside0.mk hl
  have HB := Aside0.mk (Below.refl B w)
  have hc1 : w.cell? ⟨b, 1, none⟩ = some (.int .i64 low) := (blk_cell G 1).trans rfl
  have hc3 : w.cell? ⟨b, 3, none⟩ = some v := (blk_cell G 3).trans rfl
  have hf3 := blk_frozen G 3
  clear L hP G hR hl
  by_cases hn : 256 ≤ low / 16777216
  · have HE := Aside0.mk (show layL out (low / 16777216) = carryL out ++ [low / 16777216 - 256] from by unfold layL; rw [if_pos hn]; congr 2; omega)
    rw [HE.out]
    clear HE
    obtain ⟨A, c, rfl, hle, hC⟩ := Kd.R_reads HO.out
    clear hle hC
    have hlen : out.length ≤ 100000000 := HN.out
    have hq : low / 16777216 < 512 := by omega
    go_enter Try.func103, Try.ntmps103
    go_wp2
    go_loopg [3] out.length (fun kq v3 w' => ∃ (j : Nat) (i : Int), v3 = .int .i64 i ∧ Aside0 (i = (j : Int) - 1 ∧ j = kq ∧ j ≤ out.length ∧ Full out j) ∧ Aside0 (Kd.R (Kd.int .u8) 5 w' B (fun _ => True) (.slice A out.length c) (zeroed out j)) ∧ Aside0 (w'.heap[b]? = some (.cells #[.pointer (some ⟨g, 0, none⟩), .int .i64 low, .int .i64 width, .slice A out.length c] 108 (0, 0))) ∧ Aside0 (SLikAt w' B g lik) ∧ Aside0 (Below B w w'))
    case atStart => exact ⟨out.length, _, rfl, ⟨rfl, rfl, Nat.le_refl _, (full_all out).1⟩, ⟨by rw [(full_all out).2]; exact HO.out⟩, HG, HL, HB⟩
    case round =>
      clear HO HG HL HB hc3 hf3 HS hc1
      obtain ⟨j, i, rfl, HJ, HO, HG, HL, HB⟩ := hrel
      obtain ⟨ji, jk, jl, jf⟩ := HJ.out
      have HS := Aside0.mk (show B ≤ wr.heap.size from by have := blk_lt HG.out; have := HP.out; omega)
      have hc1 : wr.cell? ⟨b, 1, none⟩ = some (.int .i64 low) := (blk_cell HG.out 1).trans rfl
      have hc3 : wr.cell? ⟨b, 3, none⟩ = some (.slice A out.length c) := (blk_cell HG.out 3).trans rfl
      have hf3 := blk_frozen HG.out 3
      have hf1 := blk_frozen HG.out 1
      have JF := Aside0.mk jf
      have JI := Aside0.mk ji
      clear HJ jf
      cases j with
      | zero =>
        have hi : i < 0 := by omega
        have HQ := Aside0.mk (full_none JF.out)
        clear ji jk
        have HN := Aside0.mk (show (zeroed out 0).length ≤ 100000000 from by rw [zeroed_length (by omega)]; exact hlen)
        go_wp2_with (first
          | ((with_reducible refine gate_builtin (b := .append) (xs := #[.tmp 59, .tmp 62]) rfl ?_); at_builtin; refine Kd.R_append (Kd.int .u8) (w0 := w) B rfl (.tmp 59) (.tmp 62) 27 5 (.int .u8 0) 1 rfl Try.underlying27 info5 rfl (by decide) (by omega) (.slice A out.length c) (zeroed out 0) (low / 16777216 - 256) [.int .u8 (low / 16777216 - 256)] (fun _ => True) (fun _ => False) rfl rfl ?aP (fun _ hk => hk.elim) ?aF ?aO ?aB ?aS ?aL ?_; (case aP => exact rfl); (case aF => exact (fun _ _ => trivial)); (case aO => exact HO.out); (case aB => exact HB.out); (case aS => exact HS.out); (case aL => have := HN.out; omega); intro v1 w1 ho hb hg hat; obtain ⟨g1, c1, rfl, -⟩ := Kd.R_form ho (by simp); have G1 := blk_grown HG.out hg (Kd.R_ne HO.out HG.out (by decide)); have L1 := slik_grown HL.out HO.out hg; have k3 : w1.cell? ⟨b, 3, none⟩ = some (.slice A out.length c) := (blk_cell G1 3).trans rfl; have k1 : w1.cell? ⟨b, 1, none⟩ = some (.int .i64 low) := (blk_cell G1 1).trans rfl; have f3 := blk_frozen G1 3; have f1 := blk_frozen G1 1; have HF := Aside0.mk (senc_put G1 L1 HP.out ho); have HB1 := Aside0.mk (show Below B w (w1.setCell ⟨b, 3, none⟩ _) from hb.setCell HP.out (.slice (some ⟨g1, 0, none⟩) (zeroed out 0 ++ [low / 16777216 - 256]).length c1)); clear hb hg hat ho G1 L1))
        go_end0
        exact ⟨rfl, by rw [HQ.out]; have := senc_low HF.out (low % 16777216 * 256); simp only [List.length_append, List.length_cons, List.length_nil, Nat.zero_add] at this; exact this, by have := HB1.out.setCell (p := ⟨b, 1, none⟩) HP.out (.int .i64 (low % 16777216 * 256)); simp only [List.length_append, List.length_cons, List.length_nil, Nat.zero_add] at this; exact this⟩
      | succ j =>
        have hi : 0 ≤ i := by omega
        have hi2 : i < (out.length : Int) := by omega
        have HI := Aside0.mk (show i.toNat = j from by omega)
        have JK := Aside0.mk jk
        clear ji jk
        obtain ⟨g2, c', e, hg0, hg1, cells, hcells⟩ := Kd.R_form HO.out (by rw [zeroed_length jl]; omega)
        injection e with e1 e2 e3
        subst e1
        clear e2 e3
        have GB := Aside0.mk hg0
        have GT := Aside0.mk hcells
        clear hg0 hg1 hcells
        obtain ⟨hx, hfx⟩ := Kd.R_celln 0 HO.out i hi hi2
        have HX := Aside0.mk (show rdOf 0 (zeroed out (j + 1)) i = rd out (j : Int) from by have e := JI.out; rw [show i = (j : Int) from by omega]; exact zeroed_rd jl)
        rw [HX.out] at hx
        clear HX
        have hr := rd_range0 (l := out) (lo := 0) (hi := 255) ho (by omega) (by omega) (j : Int)
        by_cases h255 : rd out (j : Int) = 255
        · rw [h255] at hx
          have HPt := Aside0.mk (Kd.R_putg HO.out i 0).1
          have HFN := Aside0.mk (full_next jl JF.out h255)
          go_wp2
          go_roundg j
          case measure => have := JK.out; omega
          case rel =>
            refine ⟨j, _, rfl, ⟨by have := JI.out; omega, rfl, by omega, HFN.out.1⟩, ⟨?_⟩, ⟨blk_far HG.out (blk_ne HG.out GT.out (by decide)) _⟩, ⟨slik_far8 HL.out GT.out _ _⟩, ⟨HB.out.setCell GB.out _⟩⟩
            have e := HFN.out.2
            have := HPt.out
            rw [HI.out] at this ⊢
            rw [e] at this
            exact this
        · obtain ⟨y, HY⟩ : ∃ y, Aside0 (y = rd out (j : Int)) := ⟨_, ⟨rfl⟩⟩
          rw [← HY.out] at hx hr h255
          have hy0 : 0 ≤ y := hr.1
          have hy1 : y ≤ 254 := by omega
          have hy2 : (y == 255) = false := beq_eq_false_iff_ne.mpr h255
          have HPt := Aside0.mk (Kd.R_putg HO.out i (y + 1)).1
          have HFS := Aside0.mk (show (zeroed out (j + 1)).set i.toNat (y + 1) = carryL out from by rw [HI.out, HY.out]; exact full_stop jl JF.out (by rw [← HY.out]; exact h255))
          have HG2 := Aside0.mk (blk_far HG.out (blk_ne HG.out GT.out (by decide)) (.int .u8 (y + 1)) (p := ⟨g2, i.toNat, none⟩))
          have HL2 := Aside0.mk (slik_far8 HL.out GT.out i.toNat (.int .u8 (y + 1)))
          have HB2 := Aside0.mk (show Below B w (wr.setCell ⟨g2, i.toNat, none⟩ (.int .u8 (y + 1))) from HB.out.setCell GB.out _)
          have HN := Aside0.mk (show ((zeroed out (j + 1)).set i.toNat (y + 1)).length ≤ 100000000 from by rw [List.length_set, zeroed_length jl]; exact hlen)
          have HS := Aside0.mk (show B ≤ (wr.setCell ⟨g2, i.toNat, none⟩ (.int .u8 (y + 1))).heap.size from by rw [World.size_setCell]; exact HS.out)
          clear h255 hr
          go_wp2
          go_region
          obtain ⟨W, HW⟩ : ∃ W, Aside0 (W = (wr.setCell ⟨g2, i.toNat, none⟩ (.int .u8 (y + 1))).drew) := ⟨_, ⟨rfl⟩⟩
          have HO2 := Aside0.mk (show Kd.R (Kd.int .u8) 5 W B (fun _ => True) (.slice (some ⟨g2, 0, none⟩) out.length c) ((zeroed out (j + 1)).set i.toNat (y + 1)) from by rw [HW.out]; exact HPt.out)
          have HG3 := Aside0.mk (show W.heap[b]? = some (.cells #[.pointer (some ⟨g, 0, none⟩), .int .i64 low, .int .i64 width, .slice (some ⟨g2, 0, none⟩) out.length c] 108 (0, 0)) from by rw [HW.out]; exact HG2.out)
          have HL3 := Aside0.mk (show SLikAt W B g lik from by rw [HW.out]; exact HL2.out)
          have HB3 := Aside0.mk (show Below B w W from by rw [HW.out]; exact below_drew HB2.out)
          have HS3 := Aside0.mk (show B ≤ W.heap.size from by rw [HW.out]; exact HS.out)
          rw [← HW.out]
          clear HW hc1 hc3 hf3 hf1 hx hfx HO HG HL HB HS HPt HG2 HL2 HB2
          have HO := HO2
          have HG := HG3
          have HL := HL3
          have HB := HB3
          have HS := HS3
          clear HO2 HG3 HL3 HB3 HS3
          have hc1 : W.cell? ⟨b, 1, none⟩ = some (.int .i64 low) := (blk_cell HG.out 1).trans rfl
          have hc3 : W.cell? ⟨b, 3, none⟩ = some (.slice (some ⟨g2, 0, none⟩) out.length c) := (blk_cell HG.out 3).trans rfl
          have hf3 := blk_frozen HG.out 3
          have hf1 := blk_frozen HG.out 1
          go_wp2_with (first
            | ((with_reducible refine gate_builtin (b := .append) (xs := #[.tmp 59, .tmp 62]) rfl ?_); at_builtin; refine Kd.R_append (Kd.int .u8) (w0 := w) B rfl (.tmp 59) (.tmp 62) 27 5 (.int .u8 0) 1 rfl Try.underlying27 info5 rfl (by decide) (by omega) (.slice (some ⟨g2, 0, none⟩) out.length c) ((zeroed out (j + 1)).set i.toNat (y + 1)) (low / 16777216 - 256) [.int .u8 (low / 16777216 - 256)] (fun _ => True) (fun _ => False) rfl rfl ?aP (fun _ hk => hk.elim) ?aF ?aO ?aB ?aS ?aL ?_; (case aP => exact rfl); (case aF => exact (fun _ _ => trivial)); (case aO => exact HO.out); (case aB => exact HB.out); (case aS => exact HS.out); (case aL => have := HN.out; omega); intro v1 w1 ho hb hg hat; obtain ⟨g1, c1, rfl, -⟩ := Kd.R_form ho (by simp); have G1 := blk_grown HG.out hg (Kd.R_ne HO.out HG.out (by decide)); have L1 := slik_grown HL.out HO.out hg; have k3 : w1.cell? ⟨b, 3, none⟩ = some (.slice (some ⟨g2, 0, none⟩) out.length c) := (blk_cell G1 3).trans rfl; have k1 : w1.cell? ⟨b, 1, none⟩ = some (.int .i64 low) := (blk_cell G1 1).trans rfl; have f3 := blk_frozen G1 3; have f1 := blk_frozen G1 1; have HF := Aside0.mk (senc_put G1 L1 HP.out ho); have HB1 := Aside0.mk (show Below B w (w1.setCell ⟨b, 3, none⟩ _) from hb.setCell HP.out (.slice (some ⟨g1, 0, none⟩) ((zeroed out (j + 1)).set i.toNat (y + 1) ++ [low / 16777216 - 256]).length c1)); clear hb hg hat ho G1 L1))
          go_end0
          exact ⟨rfl, by rw [← HFS.out]; have := senc_low HF.out (low % 16777216 * 256); simp only [List.length_append, List.length_set, List.length_cons, List.length_nil, Nat.zero_add] at this; exact this, by have := HB1.out.setCell (p := ⟨b, 1, none⟩) HP.out (.int .i64 (low % 16777216 * 256)); simp only [List.length_append, List.length_set, List.length_cons, List.length_nil, Nat.zero_add] at this; exact this⟩
  · have hn' : low / 16777216 ≤ 255 := by omega
    have hq : 0 ≤ low / 16777216 := by omega
    have HE := Aside0.mk (show layL out (low / 16777216) = out ++ [low / 16777216] from by unfold layL; rw [if_neg hn, Int.emod_eq_of_lt (by omega) (by omega)])
    rw [HE.out]
    clear HE hn
    have hf1 := blk_frozen HG.out 1
    go_enter Try.func103, Try.ntmps103
    go_wp2_with (first
      | ((with_reducible refine gate_builtin (b := .append) (xs := #[.tmp 59, .tmp 62]) rfl ?_); at_builtin; refine Kd.R_append (Kd.int .u8) (w0 := w) B rfl (.tmp 59) (.tmp 62) 27 5 (.int .u8 0) 1 rfl Try.underlying27 info5 rfl (by decide) (by omega) (v) (out) (low / 16777216) [.int .u8 (low / 16777216)] (fun _ => True) (fun _ => False) rfl rfl ?aP (fun _ hk => hk.elim) ?aF ?aO ?aB ?aS ?aL ?_; (case aP => exact rfl); (case aF => exact (fun _ _ => trivial)); (case aO => exact HO.out); (case aB => exact HB.out); (case aS => exact HS.out); (case aL => have := HN.out; omega); intro v1 w1 ho hb hg hat; obtain ⟨g1, c1, rfl, -⟩ := Kd.R_form ho (by simp); have G1 := blk_grown HG.out hg (Kd.R_ne HO.out HG.out (by decide)); have L1 := slik_grown HL.out HO.out hg; have k3 : w1.cell? ⟨b, 3, none⟩ = some (v) := (blk_cell G1 3).trans rfl; have k1 : w1.cell? ⟨b, 1, none⟩ = some (.int .i64 low) := (blk_cell G1 1).trans rfl; have f3 := blk_frozen G1 3; have f1 := blk_frozen G1 1; have HF := Aside0.mk (senc_put G1 L1 HP.out ho); have HB1 := Aside0.mk (show Below B w (w1.setCell ⟨b, 3, none⟩ _) from hb.setCell HP.out (.slice (some ⟨g1, 0, none⟩) (out ++ [low / 16777216]).length c1)); clear hb hg hat ho G1 L1))
    go_end0
    exact ⟨rfl, by have := senc_low HF.out (low % 16777216 * 256); simp only [List.length_append, List.length_cons, List.length_nil, Nat.zero_add] at this; exact this, by have := HB1.out.setCell (p := ⟨b, 1, none⟩) HP.out (.int .i64 (low % 16777216 * 256)); simp only [List.length_append, List.length_cons, List.length_nil, Nat.zero_add] at this; exact this⟩

/-! ### spec_l09Out_put: function 67 (by hand) -/
theorem senc_lik {W : World} {B b g q c : Nat} {s : Enc} (h : SEncAt W B b g s) (hq : W.cell? ⟨g, 0, none⟩ = some (.slice (some ⟨q, 0, none⟩) s.lik.length c)) (hl : 0 < s.lik.length) (i : Nat) (x : Int) :
    SEncAt (W.setCell ⟨q, i, none⟩ (.int .i64 x)) B b g ⟨s.lik.set i x, s.low, s.width, s.out⟩ := by
  obtain ⟨L, hB, v, G, ho⟩ := h
  have L2 := slik_set L hq hl i x
  obtain ⟨hB2, v2, G2, hR⟩ := L
  have e : W.cell? ⟨g, 0, none⟩ = some v2 := (blk_cell G2 0).trans rfl
  rw [hq] at e
  injection e with e
  subst e
  obtain ⟨q', c', e2, hq0, hq1, cells, hc⟩ := Kd.R_form hR hl
  injection e2 with e2 _ _
  injection e2 with e2
  injection e2 with e2 _ _
  subst e2
  exact ⟨L2, hB, v, blk_far G (blk_ne G hc (by decide)) _, Kd.R_set ho hc (by decide) i _⟩
set_option maxHeartbeats 4000000 in
set_option maxRecDepth 100000 in
theorem sPut_calls (B b g : Nat) (lik : List Int) (low width : Int) (out : List Int) (ctx : Nat) (bit : Int) (hbit : bit = 0 ∨ bit = 1) (w : World) (h : SEncAt w B b g ⟨lik, low, width, out⟩) (hs : EncOk ⟨lik, low, width, out⟩) (hc : ctx < 400) (hl : out.length ≤ 10000000) :
    Calls Try.prog 67 #[.pointer (some ⟨b, 0, none⟩), .int .i64 ctx, .int .i64 bit] w fun e w' => e = .returned (.tuple #[]) ∧ SEncAt w' B b g (putE ⟨lik, low, width, out⟩ ctx bit) ∧ Below B w w' := by
  have hlo : 0 ≤ low := hs.low0
  have hsum : low + width ≤ 8589934592 := hs.sum
  have hw0 : 16777216 ≤ width := hs.w0
  have hw1 : width ≤ 4294967295 := hs.w1
  have hlk : LikOk lik := hs.lik
  have hbo : BytesOk out := hs.out
  have hr := lik_rd hlk (c := (ctx : Int)) (by omega) (by omega)
  have hpr := partE_range hlk hw0 (ctx := (ctx : Int)) (by omega) (by omega)
  have HSZ := Aside0.mk (senc_lt h)
  have HE0 := Aside0.mk h
  have HP := Aside0.mk (show B ≤ b from h.2.1)
  obtain ⟨hb0, hb1, hb2, hf1, hf2, hbl⟩ := senc_cells h
  obtain ⟨q0, c0, h0, hx, hfx, -, -⟩ := slik_cell h.1 ctx (show ctx < lik.length from by rw [hlk.1]; exact hc)
  replace h0 : w.cell? ⟨g, 0, none⟩ = some (.slice (some ⟨q0, 0, none⟩) lik.length c0) := h0
  replace hx : w.cell? ⟨q0, ctx, none⟩ = some (.int .i64 (rd lik (ctx : Int))) := hx
  have HCL := Aside0.mk (show ctx < lik.length from by rw [hlk.1]; exact hc)
  have hcl1 : (ctx : Int) < (lik.length : Int) := by have := HCL.out; omega
  have hcl2 : ctx < lik.length := HCL.out
  obtain ⟨x, HX⟩ : ∃ x, Aside0 (x = rd lik (ctx : Int)) := ⟨_, ⟨rfl⟩⟩
  rw [← HX.out] at hr hx
  obtain ⟨pt, HPT⟩ : ∃ pt, Aside0 (pt = partE lik width (ctx : Int)) := ⟨_, ⟨rfl⟩⟩
  rw [← HPT.out] at hpr
  have hmul : wrap64 (width / 4096 * x) = pt := by
    have e : width / 4096 * x = pt := by rw [HPT.out, HX.out]; rfl
    rw [e]
    exact w64 (by omega) (by omega)
  have hmul2 : IntKind.i64.wrap (width / 4096 * x) = pt := (i64_w _).trans hmul
  obtain ⟨hr0, hr1⟩ := hr
  obtain ⟨hp0, hp1⟩ := hpr
  have HK := Aside0.mk hlk
  have HBO := Aside0.mk hbo
  have HN := Aside0.mk hl
  clear hlk hbo hl
  rcases hbit with rfl | rfl
  · go_enter Try.func67, Try.ntmps67
    go_wp2
    go_quiet (fail)
    go_wp2_with fail
    obtain ⟨W1, HW1⟩ : ∃ W1, Aside0 (W1 = (w.drewN nq).setCell ⟨b, 2, none⟩ (.int .i64 pt)) := ⟨_, ⟨rfl⟩⟩
    have E1 := Aside0.mk (show SEncAt W1 B b g ⟨lik, low, pt, out⟩ from by rw [HW1.out]; exact senc_width (senc_drewN HE0.out _) pt)
    have B1 := Aside0.mk (show Below B w W1 from by rw [HW1.out]; exact (pw_below_drewN (Below.refl B w) _).setCell HP.out _)
    rw [← HW1.out]
    clear HW1 hb1 hb2 hf1 hf2 hb0 hx hfx h0
    obtain ⟨hb0, hb1, hb2, hf1, hf2, hbl1⟩ := senc_cells E1.out
    obtain ⟨q1, c1, h0, hx, hfx, hql, hqB⟩ := slik_cell E1.out.1 ctx HCL.out
    have HX2 := Aside0.mk (show W1.cell? ⟨g, 0, none⟩ = some (.slice (some ⟨q1, 0, none⟩) lik.length c1) from h0)
    replace hx : W1.cell? ⟨q1, ctx, none⟩ = some (.int .i64 (rd lik (ctx : Int))) := hx
    rw [← HX.out] at hx
    refine (sLearn_calls g q1 c1 lik.length ctx x 0 _ h0 hx hfx hr0 hr1 HCL.out).mono ?_
    rintro e w' ⟨rfl, ⟨nl, rfl⟩⟩
    go_wp2
    obtain ⟨W2, HW2⟩ : ∃ W2, Aside0 (W2 = (W1.setCell ⟨q1, ctx, none⟩ (.int .i64 (learnP x 0))).drewN nl) := ⟨_, ⟨rfl⟩⟩
    have E2 := Aside0.mk (show SEncAt W2 B b g ⟨learnL lik ctx 0, low, pt, out⟩ from by
      rw [HW2.out]
      have := senc_lik E1.out HX2.out (show 0 < lik.length from by have := HCL.out; omega) ctx (learnP x 0)
      rw [HX.out] at this ⊢
      exact senc_drewN this _)
    have B2 := Aside0.mk (show Below B w W2 from by rw [HW2.out]; exact pw_below_drewN (B1.out.setCell hqB _) _)
    rw [← HW2.out]
    clear HW2 hb0 hb1 hb2 hf1 hf2 E1 B1 h0 hx hfx HX2 hql hqB
    obtain ⟨hb0, hb1, hb2, hf1, hf2, hbl2⟩ := senc_cells E2.out
    by_cases hsm : pt < 16777216
    · have HE := Aside0.mk (show putE ⟨lik, low, width, out⟩ ctx 0 = ⟨learnL lik ctx 0, low % 16777216 * 256, pt * 256, layL out (low / 16777216)⟩ from by
        have e1 : widthE ⟨lik, low, width, out⟩ ctx 0 = pt := by rw [HPT.out]; rfl
        have e2 : lowE ⟨lik, low, width, out⟩ ctx 0 = low := by first | rfl | (rw [HPT.out]; rfl)
        unfold putE
        rw [e1, e2, if_pos hsm])
      have hq2 : 16777216 ≤ pt * 256 := by omega
      have hq3 : pt * 256 ≤ 4294967296 := by omega
      have hq4 : 16777216 ≤ 256 * pt := by omega
      have hq5 : 256 * pt ≤ 4294967296 := by omega
      refine wp_loop_rounds 2 ?_
      rw [rounds_succ]
      go_wp2_with (go_at_call 103; (with_reducible refine (sLay_calls B b g _ _ _ out _ E2.out HBO.out (by omega) (by omega) (by have := HN.out; omega)).mono ?_); rintro e W3 ⟨rfl, e3, b3⟩; have E3 := Aside0.mk e3; have B3 := Aside0.mk (B2.out.trans b3); clear e3 b3; clear hb0 hb1 hb2 hf1 hf2; obtain ⟨hb0, hb1, hb2, hf1, hf2, hbl3⟩ := senc_cells E3.out)
      rw [rounds_succ]
      go_wp2
      go_end0
      exact ⟨rfl, by rw [HE.out, Int.mul_comm (pt) 256]; exact senc_width E3.out _, B3.out.setCell HP.out _⟩
    · have HE := Aside0.mk (show putE ⟨lik, low, width, out⟩ ctx 0 = ⟨learnL lik ctx 0, low, pt, out⟩ from by
        have e1 : widthE ⟨lik, low, width, out⟩ ctx 0 = pt := by rw [HPT.out]; rfl
        have e2 : lowE ⟨lik, low, width, out⟩ ctx 0 = low := by first | rfl | (rw [HPT.out]; rfl)
        unfold putE
        rw [e1, e2, if_neg hsm])
      have hq2 : 16777216 ≤ pt := by omega
      refine wp_loop_rounds 1 ?_
      rw [rounds_succ]
      go_wp2
      go_end0
      exact ⟨rfl, by rw [HE.out]; exact E2.out, B2.out⟩
  · go_enter Try.func67, Try.ntmps67
    go_wp2
    go_quiet (fail)
    go_wp2_with fail
    obtain ⟨W1, HW1⟩ : ∃ W1, Aside0 (W1 = ((w.drewN nq).setCell ⟨b, 1, none⟩ (.int .i64 (low + pt))).setCell ⟨b, 2, none⟩ (.int .i64 (width - pt))) := ⟨_, ⟨rfl⟩⟩
    have E1 := Aside0.mk (show SEncAt W1 B b g ⟨lik, (low + pt), (width - pt), out⟩ from by rw [HW1.out]; exact senc_width (senc_low (senc_drewN HE0.out _) _) _)
    have B1 := Aside0.mk (show Below B w W1 from by rw [HW1.out]; exact ((pw_below_drewN (Below.refl B w) _).setCell HP.out _).setCell HP.out _)
    rw [← HW1.out]
    clear HW1 hb1 hb2 hf1 hf2 hb0 hx hfx h0
    obtain ⟨hb0, hb1, hb2, hf1, hf2, hbl1⟩ := senc_cells E1.out
    obtain ⟨q1, c1, h0, hx, hfx, hql, hqB⟩ := slik_cell E1.out.1 ctx HCL.out
    have HX2 := Aside0.mk (show W1.cell? ⟨g, 0, none⟩ = some (.slice (some ⟨q1, 0, none⟩) lik.length c1) from h0)
    replace hx : W1.cell? ⟨q1, ctx, none⟩ = some (.int .i64 (rd lik (ctx : Int))) := hx
    rw [← HX.out] at hx
    refine (sLearn_calls g q1 c1 lik.length ctx x 1 _ h0 hx hfx hr0 hr1 HCL.out).mono ?_
    rintro e w' ⟨rfl, ⟨nl, rfl⟩⟩
    go_wp2
    obtain ⟨W2, HW2⟩ : ∃ W2, Aside0 (W2 = (W1.setCell ⟨q1, ctx, none⟩ (.int .i64 (learnP x 1))).drewN nl) := ⟨_, ⟨rfl⟩⟩
    have E2 := Aside0.mk (show SEncAt W2 B b g ⟨learnL lik ctx 1, (low + pt), (width - pt), out⟩ from by
      rw [HW2.out]
      have := senc_lik E1.out HX2.out (show 0 < lik.length from by have := HCL.out; omega) ctx (learnP x 1)
      rw [HX.out] at this ⊢
      exact senc_drewN this _)
    have B2 := Aside0.mk (show Below B w W2 from by rw [HW2.out]; exact pw_below_drewN (B1.out.setCell hqB _) _)
    rw [← HW2.out]
    clear HW2 hb0 hb1 hb2 hf1 hf2 E1 B1 h0 hx hfx HX2 hql hqB
    obtain ⟨hb0, hb1, hb2, hf1, hf2, hbl2⟩ := senc_cells E2.out
    by_cases hsm : (width - pt) < 16777216
    · have HE := Aside0.mk (show putE ⟨lik, low, width, out⟩ ctx 1 = ⟨learnL lik ctx 1, (low + pt) % 16777216 * 256, (width - pt) * 256, layL out ((low + pt) / 16777216)⟩ from by
        have e1 : widthE ⟨lik, low, width, out⟩ ctx 1 = (width - pt) := by rw [HPT.out]; rfl
        have e2 : lowE ⟨lik, low, width, out⟩ ctx 1 = (low + pt) := by first | rfl | (rw [HPT.out]; rfl)
        unfold putE
        rw [e1, e2, if_pos hsm])
      have hq2 : 16777216 ≤ (width - pt) * 256 := by omega
      have hq3 : (width - pt) * 256 ≤ 4294967296 := by omega
      have hq4 : 16777216 ≤ 256 * (width - pt) := by omega
      have hq5 : 256 * (width - pt) ≤ 4294967296 := by omega
      refine wp_loop_rounds 2 ?_
      rw [rounds_succ]
      go_wp2_with (go_at_call 103; (with_reducible refine (sLay_calls B b g _ _ _ out _ E2.out HBO.out (by omega) (by omega) (by have := HN.out; omega)).mono ?_); rintro e W3 ⟨rfl, e3, b3⟩; have E3 := Aside0.mk e3; have B3 := Aside0.mk (B2.out.trans b3); clear e3 b3; clear hb0 hb1 hb2 hf1 hf2; obtain ⟨hb0, hb1, hb2, hf1, hf2, hbl3⟩ := senc_cells E3.out)
      rw [rounds_succ]
      go_wp2
      go_end0
      exact ⟨rfl, by rw [HE.out, Int.mul_comm ((width - pt)) 256]; exact senc_width E3.out _, B3.out.setCell HP.out _⟩
    · have HE := Aside0.mk (show putE ⟨lik, low, width, out⟩ ctx 1 = ⟨learnL lik ctx 1, (low + pt), (width - pt), out⟩ from by
        have e1 : widthE ⟨lik, low, width, out⟩ ctx 1 = (width - pt) := by rw [HPT.out]; rfl
        have e2 : lowE ⟨lik, low, width, out⟩ ctx 1 = (low + pt) := by first | rfl | (rw [HPT.out]; rfl)
        unfold putE
        rw [e1, e2, if_neg hsm])
      have hq2 : 16777216 ≤ (width - pt) := by omega
      refine wp_loop_rounds 1 ?_
      rw [rounds_succ]
      go_wp2
      go_end0
      exact ⟨rfl, by rw [HE.out]; exact E2.out, B2.out⟩

/-! ### spec_l09New: function 101 (by hand) -/
set_option maxHeartbeats 4000000 in
set_option maxRecDepth 100000 in
theorem sNew_calls (w : World) : Calls Try.prog 101 #[] w fun e w' => ∃ g, e = .returned (.pointer (some ⟨g, 0, none⟩)) ∧ SLikAt w' w.heap.size g likL ∧ Below w.heap.size w w' := by
  have HB := Aside0.mk (below_alloc (Below.refl w.heap.size w) (.cells #[.slice none 0 0] 110))
  have HG := Aside0.mk (blk_new w (.cells #[.slice none 0 0] 110))
  go_enter Try.func101, Try.ntmps101
  go_wp2
  go_loopg [2] 400 (fun kq v2 w' => ∃ (k : Nat) (v : Value), v2 = .int .i64 (k : Int) ∧ Aside0 (k + kq = 400) ∧ Aside0 (w'.heap[w.heap.size]? = some (.cells #[v] 110 (0, 0))) ∧ Aside0 (Kd.R (Kd.int .i64) 3 w' w.heap.size (fun _ => True) v (List.replicate k 2048)) ∧ Aside0 (Below w.heap.size w w'))
  case atStart => exact ⟨0, _, rfl, ⟨rfl⟩, HG, ⟨Kd.R_nil _ _ _ _ _⟩, HB⟩
  case round =>
    clear HG HB
    obtain ⟨k, v, rfl, HK, HG, HO, HB⟩ := hrel
    by_cases hk : k < 400
    · have hk2 : (k : Int) < 400 := by omega
      have HS := Aside0.mk (show w.heap.size ≤ wr.heap.size from HB.out.size)
      have hc0 : wr.cell? ⟨w.heap.size, 0, none⟩ = some v := (blk_cell HG.out 0).trans rfl
      have hf0 := blk_frozen HG.out 0
      go_wp2_with (first
        | ((with_reducible refine gate_builtin (b := .append) (xs := #[.tmp 13, .tmp 14]) rfl ?_); at_builtin; refine Kd.R_append (Kd.int .i64) (w0 := w) w.heap.size rfl (.tmp 13) (.tmp 14) 34 3 (.int .i64 0) 8 rfl Try.underlying34 info3 rfl (by decide) (by omega) v (List.replicate k 2048) 2048 [.int .i64 2048] (fun _ => True) (fun _ => False) rfl rfl ?aP (fun _ hk => hk.elim) ?aF ?aO ?aB ?aS ?aL ?_; (case aP => exact rfl); (case aF => exact (fun _ _ => trivial)); (case aO => exact HO.out); (case aB => exact HB.out); (case aS => exact HS.out); (case aL => rw [List.length_replicate]; omega); intro v1 w1 ho hb hg hat; obtain ⟨g1, c1, rfl, -⟩ := Kd.R_form ho (by simp); have G1 := blk_grown HG.out hg (Kd.R_ne HO.out HG.out (by decide)); have k3 : w1.cell? ⟨w.heap.size, 0, none⟩ = some v := (blk_cell G1 0).trans rfl; have f3 := blk_frozen G1 0; have HG1 := Aside0.mk (show (w1.setCell ⟨w.heap.size, 0, none⟩ _).heap[w.heap.size]? = some (.cells #[.slice (some ⟨g1, 0, none⟩) (List.replicate k (2048 : Int) ++ [2048]).length c1] 110 (0, 0)) from by rw [blk_set G1 0]; rfl); have HO1 := Aside0.mk (Kd.R_set ho G1 (by decide) 0 (.slice (some ⟨g1, 0, none⟩) (List.replicate k (2048 : Int) ++ [2048]).length c1)); have HB1 := Aside0.mk (show Below w.heap.size w (w1.setCell ⟨w.heap.size, 0, none⟩ _) from hb.setCell (Nat.le_refl _) (.slice (some ⟨g1, 0, none⟩) (List.replicate k (2048 : Int) ++ [2048]).length c1)); rw [show (List.replicate k (2048 : Int) ++ [2048]) = List.replicate (k + 1) 2048 from (List.replicate_succ' (n := k)).symm, List.length_replicate] at HG1 HO1 HB1; clear hb hg hat ho G1))
      go_roundg (400 - (k + 1))
      case measure => have := HK.out; omega
      case rel =>
        exact ⟨k + 1, .slice (some ⟨g1, 0, none⟩) (k + 1) c1, by first | rfl | go_num | simp, ⟨by have := HK.out; omega⟩, HG1, HO1, HB1⟩
    · have hk2 : ¬ (k : Int) < 400 := by omega
      have e := HK.out
      obtain rfl : k = 400 := by omega
      clear e
      go_wp2
      go_ret
      exact ⟨_, rfl, ⟨Nat.le_refl _, v, HG.out, HO.out⟩, HB.out⟩

/-! ### spec_l09In_next: function 104 (by hand) -/
/-- The likelihoods of the reference, with the block of their row. -/
def SLikQ (W : World) (B g q : Nat) (lik : List Int) : Prop := B ≤ g ∧ ∃ c, W.heap[g]? = some (.cells #[.slice (some ⟨q, 0, none⟩) lik.length c] 110 (0, 0)) ∧ Kd.R (Kd.int .i64) 3 W B (fun _ => True) (.slice (some ⟨q, 0, none⟩) lik.length c) lik
theorem slikq_of {W : World} {B g : Nat} {lik : List Int} (h : SLikAt W B g lik) (hl : 0 < lik.length) : ∃ q, SLikQ W B g q lik := by
  obtain ⟨hB, v, G, hR⟩ := h
  obtain ⟨q, c, rfl, _⟩ := Kd.R_form hR hl
  exact ⟨q, hB, c, G, hR⟩
theorem slikq_blk {W : World} {B g q : Nat} {lik : List Int} (h : SLikQ W B g q lik) (hl : 0 < lik.length) : ∃ cs, W.heap[q]? = some (.cells cs 3 (0, 0)) ∧ B ≤ q := by
  obtain ⟨hB, c, G, hR⟩ := h
  obtain ⟨q', c', e2, hq0, hq1, cells, hc⟩ := Kd.R_form hR hl
  injection e2 with e2 _ _
  injection e2 with e2
  injection e2 with e2 _ _
  subst e2
  exact ⟨cells, hc, hq0⟩
theorem slikq_cell {W : World} {B g q : Nat} {lik : List Int} (h : SLikQ W B g q lik) (i : Nat) (hi : i < lik.length) : ∃ c, W.cell? ⟨g, 0, none⟩ = some (.slice (some ⟨q, 0, none⟩) lik.length c) ∧ W.cell? ⟨q, i, none⟩ = some (.int .i64 (rd lik i)) ∧ W.frozen? ⟨q, i, none⟩ = false ∧ q < W.heap.size ∧ B ≤ q := by
  obtain ⟨cs, hq, hqB⟩ := slikq_blk h (by omega)
  obtain ⟨hB, c, G, hR⟩ := h
  obtain ⟨hx, hf⟩ := Kd.R_celln 0 hR (i : Int) (by omega) (by omega)
  rw [Int.toNat_natCast] at hx hf
  exact ⟨c, (blk_cell G 0).trans rfl, hx, hf, blk_lt hq, hqB⟩
theorem slikq_set {W : World} {B g q : Nat} {lik : List Int} (h : SLikQ W B g q lik) (hl : 0 < lik.length) (i : Nat) (x : Int) : SLikQ (W.setCell ⟨q, i, none⟩ (.int .i64 x)) B g q (lik.set i x) := by
  obtain ⟨cs, hq, hqB⟩ := slikq_blk h hl
  obtain ⟨hB, c, G, hR⟩ := h
  refine ⟨hB, c, ?_, ?_⟩
  · rw [List.length_set]
    exact blk_far G (blk_ne G hq (by decide)) _
  · have := (Kd.R_putg hR (i : Int) x).1
    rw [Int.toNat_natCast] at this
    rw [List.length_set]
    exact this
theorem slikq_far {W : World} {B g q : Nat} {lik : List Int} (h : SLikQ W B g q lik) {b : Nat} {cs : Array Value} {t : TypeId} (hb : W.heap[b]? = some (.cells cs t (0, 0))) (h1 : 3 ≠ t) (h2 : 110 ≠ t) (i : Nat) (u : Value) : SLikQ (W.setCell ⟨b, i, none⟩ u) B g q lik := by
  obtain ⟨hB, c, G, hR⟩ := h
  exact ⟨hB, c, blk_far G (blk_ne G hb h2) _, Kd.R_set hR hb (fun q hq => by rcases List.mem_singleton.1 hq with rfl; exact h1) i u⟩
/-- The reference's reader of bits, at block r; its likelihoods at block g; its bytes came in by w0. -/
def SDecAt (w0 W : World) (r g q : Nat) (bs : List Int) (s : Dec) : Prop :=
  (SLikQ W w0.heap.size g q s.lik ∧ 0 < s.lik.length) ∧ w0.heap.size ≤ r ∧ ∃ A c, W.heap[r]? = some (.cells #[.pointer (some ⟨g, 0, none⟩), .slice A bs.length c, .int .i64 (s.at_ : Int), .int .i64 s.code, .int .i64 s.width] 112 (0, 0)) ∧
    Kd.C (Kd.int .u8) w0 A bs.length bs
theorem sdec_at {w0 W : World} {r g q : Nat} {bs : List Int} {lik : List Int} {code width : Int} {n : Nat} (h : SDecAt w0 W r g q bs ⟨lik, code, width, n⟩) (m : Nat) : SDecAt w0 (W.setCell ⟨r, 2, none⟩ (.int .i64 (m : Int))) r g q bs ⟨lik, code, width, m⟩ := by
  obtain ⟨L, hB, A, c, G, hC⟩ := h
  refine ⟨⟨slikq_far L.1 G (by decide) (by decide) 2 _, L.2⟩, hB, A, c, ?_, hC⟩
  rw [blk_set G 2]
  rfl
theorem sdec_code {w0 W : World} {r g q : Nat} {bs : List Int} {lik : List Int} {code width : Int} {n : Nat} (h : SDecAt w0 W r g q bs ⟨lik, code, width, n⟩) (x : Int) : SDecAt w0 (W.setCell ⟨r, 3, none⟩ (.int .i64 x)) r g q bs ⟨lik, x, width, n⟩ := by
  obtain ⟨L, hB, A, c, G, hC⟩ := h
  refine ⟨⟨slikq_far L.1 G (by decide) (by decide) 3 _, L.2⟩, hB, A, c, ?_, hC⟩
  rw [blk_set G 3]
  rfl
theorem sdec_width {w0 W : World} {r g q : Nat} {bs : List Int} {lik : List Int} {code width : Int} {n : Nat} (h : SDecAt w0 W r g q bs ⟨lik, code, width, n⟩) (x : Int) : SDecAt w0 (W.setCell ⟨r, 4, none⟩ (.int .i64 x)) r g q bs ⟨lik, code, x, n⟩ := by
  obtain ⟨L, hB, A, c, G, hC⟩ := h
  refine ⟨⟨slikq_far L.1 G (by decide) (by decide) 4 _, L.2⟩, hB, A, c, ?_, hC⟩
  rw [blk_set G 4]
  rfl
theorem sdec_drewN {w0 W : World} {r g q : Nat} {bs : List Int} {s : Dec} (h : SDecAt w0 W r g q bs s) (n : Nat) : SDecAt w0 (W.drewN n) r g q bs s := h
theorem sdec_drew {w0 W : World} {r g q : Nat} {bs : List Int} {s : Dec} (h : SDecAt w0 W r g q bs s) : SDecAt w0 W.drew r g q bs s := h
theorem sdec_cells {w0 W : World} {r g q : Nat} {bs : List Int} {lik : List Int} {code width : Int} {n : Nat} (h : SDecAt w0 W r g q bs ⟨lik, code, width, n⟩) :
    ∃ A c, W.cell? ⟨r, 0, none⟩ = some (.pointer (some ⟨g, 0, none⟩)) ∧ W.cell? ⟨r, 1, none⟩ = some (.slice A bs.length c) ∧ W.cell? ⟨r, 2, none⟩ = some (.int .i64 (n : Int)) ∧ W.cell? ⟨r, 3, none⟩ = some (.int .i64 code) ∧ W.cell? ⟨r, 4, none⟩ = some (.int .i64 width) ∧ W.frozen? ⟨r, 2, none⟩ = false ∧ W.frozen? ⟨r, 3, none⟩ = false ∧ W.frozen? ⟨r, 4, none⟩ = false ∧ w0.heap.size ≤ r ∧ Kd.C (Kd.int .u8) w0 A bs.length bs := by
  obtain ⟨L, hB, A, c, G, hC⟩ := h
  exact ⟨A, c, (blk_cell G 0).trans rfl, (blk_cell G 1).trans rfl, (blk_cell G 2).trans rfl, (blk_cell G 3).trans rfl, (blk_cell G 4).trans rfl, blk_frozen G 2, blk_frozen G 3, blk_frozen G 4, hB, hC⟩
set_option maxHeartbeats 4000000 in
set_option maxRecDepth 100000 in
theorem sNext_calls (r g q : Nat) (bs : List Int) (lik : List Int) (code width : Int) (n : Nat) (w0 W : World) (h : SDecAt w0 W r g q bs ⟨lik, code, width, n⟩) (hb : Below w0.heap.size w0 W) (hbs : BytesOk bs) (hn : n ≤ 1000000000) :
    Calls Try.prog 104 #[.pointer (some ⟨r, 0, none⟩)] W fun e w' => e = .returned (.int .i64 (byteAt bs n)) ∧ SDecAt w0 w' r g q bs ⟨lik, code, width, n + 1⟩ ∧ Below w0.heap.size W w' ∧ KeepBut W w' r (some q) := by
  have HD := Aside0.mk h
  obtain ⟨A, c, h0, h1, h2, h3, h4, f2, f3, f4, hr, hC⟩ := sdec_cells h
  have HR := Aside0.mk hr
  have HB := Aside0.mk hb
  clear h h0 h3 h4 f3 f4 hb
  by_cases hlt : n < bs.length
  · have hli : (n : Int) < (bs.length : Int) := by omega
    have hx0 := hbs _ (List.getElem_mem hlt)
    have HBY := Aside0.mk (show byteAt bs n = bs[n] from by unfold byteAt; rw [if_pos hlt, rd_nat hlt])
    rw [HBY.out]
    clear HBY
    obtain ⟨ad, e, hx⟩ := Kd.at_int hC (n : Int) (by omega) hli
    subst e
    rw [rd_nat hlt, Int.toNat_natCast] at hx
    replace hx := pw_cell_below HB.out hx
    obtain ⟨y, HY⟩ : ∃ y, Aside0 (y = bs[n]) := ⟨_, ⟨rfl⟩⟩
    rw [← HY.out] at hx hx0 ⊢
    obtain ⟨hx0, hx1⟩ := hx0
    clear HY hC hbs
    go_enter Try.func104, Try.ntmps104
    go_wp2
    go_quiet (fail)
    go_wp2
    go_quiet (fail)
    go_wp2
    go_ret
    exact ⟨rfl, sdec_at (sdec_drewN HD.out _) (n + 1), (pw_below_drewN (Below.refl _ _) _).setCell HR.out _, (show KeepBut W (W.drewN _) r (some q) from KeepBut.refl _ _ _).set_ _ _⟩
  · have hli : ¬ (n : Int) < (bs.length : Int) := by omega
    have HBY := Aside0.mk (show byteAt bs n = 0 from by unfold byteAt; rw [if_neg hlt])
    rw [HBY.out]
    clear HBY hC hbs
    go_enter Try.func104, Try.ntmps104
    go_wp2
    go_quiet (fail)
    go_wp2
    go_ret
    exact ⟨rfl, sdec_at (sdec_drewN HD.out _) (n + 1), (pw_below_drewN (Below.refl _ _) _).setCell HR.out _, (show KeepBut W (W.drewN _) r (some q) from KeepBut.refl _ _ _).set_ _ _⟩

/-! ### spec_l09Reader: function 69 (by hand) -/
def SGotReader (w0 W : World) (bs : List Int) (e : Ending) (w' : World) : Prop := ∃ r g q, e = .returned (.pointer (some ⟨r, 0, none⟩)) ∧ SDecAt w0 w' r g q bs (startD bs) ∧ Below w0.heap.size w0 w' ∧ W.heap.size ≤ r ∧ W.heap.size ≤ q ∧ KeepBut W w' r (some q)
theorem slikq_base {W : World} {B B' g q : Nat} {lik : List Int} (h : SLikQ W B g q lik) (hb : B' ≤ B) : SLikQ W B' g q lik := by
  obtain ⟨hB, c, G, hR⟩ := h
  exact ⟨Nat.le_trans hb hB, c, G, Kd.R_lower hR hb⟩
theorem slikq_alloc {W : World} {B g q : Nat} {lik : List Int} (h : SLikQ W B g q lik) (o : Obj) : SLikQ (W.alloc o) B g q lik := by
  obtain ⟨hB, c, G, hR⟩ := h
  have hb := below_alloc (Below.refl W.heap.size W) o
  exact ⟨hB, c, (hb.block g (blk_lt G)).trans G, Kd.R_below hR hb⟩
set_option maxHeartbeats 4000000 in
set_option maxRecDepth 100000 in
theorem sReader_calls (A : Option Addr) (c : Nat) (bs : List Int) (w0 W : World) (hr : Kd.C (Kd.int .u8) w0 A bs.length bs) (hb : Below w0.heap.size w0 W) (hbs : BytesOk bs) :
    Calls Try.prog 69 #[.slice A bs.length c] W (SGotReader w0 W bs) := by
  have HR := Aside0.mk hr
  have HB := Aside0.mk hb
  have HBS := Aside0.mk hbs
  clear hr hb hbs
  go_enter Try.func69, Try.ntmps69
  go_wp2_with (go_at_call 101; (with_reducible refine (sNew_calls _).mono ?_); rintro e w1 ⟨g, rfl, hlk, hb⟩; obtain ⟨q, hlq⟩ := slikq_of hlk (show 0 < likL.length from by decide); have HLK := Aside0.mk (slikq_base hlq (below_size HB.out)); have HRQ := Aside0.mk (show W.heap.size ≤ w1.heap.size ∧ W.heap.size ≤ q from ⟨hb.size, (slikq_blk hlq (show 0 < likL.length from by decide)).choose_spec.2⟩); have HB1 := Aside0.mk (below_step HB.out hb); have HBX := Aside0.mk hb; clear hlk hb hlq)
  obtain ⟨W2, HW2⟩ : ∃ W2, Aside0 (W2 = w1.alloc (.cells #[.pointer (some ⟨g, 0, none⟩), .slice A bs.length c, .int .i64 0, .int .i64 0, .int .i64 4294967295] 112)) := ⟨_, ⟨rfl⟩⟩
  have HD := Aside0.mk (show SDecAt w0 W2 w1.heap.size g q bs ⟨likL, numAt bs 0, 4294967295, 0⟩ from by
    rw [HW2.out]
    exact ⟨⟨slikq_alloc HLK.out _, show 0 < likL.length from by decide⟩, below_size HB1.out, A, c, blk_new w1 _, HR.out⟩)
  have HB2 := Aside0.mk (show Below w0.heap.size w0 W2 from by rw [HW2.out]; exact below_alloc HB1.out _)
  obtain ⟨r, HRR⟩ : ∃ r, Aside0 (r = w1.heap.size) := ⟨_, ⟨rfl⟩⟩
  have HKB := Aside0.mk (show KeepBut W W2 r (some q) from by rw [HW2.out]; exact KeepBut.of_below (below_alloc HBX.out _) _ _)
  rw [← HRR.out] at HD HRQ
  rw [← HW2.out, ← HRR.out]
  clear HW2 HB HB1 HLK HRR HBX
  go_loopg [4] 4 (fun kq v4 w' => ∃ (k : Nat), v4 = .int .i64 (k : Int) ∧ Aside0 (k + kq = 4) ∧ Aside0 (SDecAt w0 w' r g q bs ⟨likL, numAt bs k, 4294967295, k⟩) ∧ Aside0 (Below w0.heap.size w0 w') ∧ Aside0 (KeepBut W w' r (some q)))
  case atStart => exact ⟨0, rfl, ⟨rfl⟩, HD, HB2, HKB⟩
  case round =>
    clear HD HB2 HKB
    obtain ⟨k, rfl, HQ, HD, HB, HKB⟩ := hrel
    by_cases hk : k < 4
    · have hk2 : (k : Int) < 4 := by omega
      have hnr := numAt_range HBS.out k
      have hn1 : numAt bs k ≤ 16777215 := by
        obtain rfl | rfl | rfl | rfl : k = 0 ∨ k = 1 ∨ k = 2 ∨ k = 3 := by omega
        all_goals have := hnr.2; omega
      have hn0 : 0 ≤ numAt bs k := hnr.1
      have hby := byteAt_range HBS.out k
      have HNX := Aside0.mk (show numAt bs (k + 1) = 256 * numAt bs k + byteAt bs k from rfl)
      clear hnr
      obtain ⟨hb0, hb1⟩ := hby
      generalize HM : numAt bs k = m at hn0 hn1 HNX HD
      generalize HY : byteAt bs k = y at hb0 hb1 HNX
      have HY2 := Aside0.mk HY
      have hkk : k ≤ 1000000000 := by omega
      clear HM HY
      go_wp2_with (go_at_call 104; (with_reducible refine (sNext_calls r g q bs likL m 4294967295 k w0 _ HD.out HB.out HBS.out hkk).mono ?_); rintro e W3 ⟨rfl, d3, b3, k3⟩; rw [HY2.out]; have HKB3 := Aside0.mk (KeepBut.trans HKB.out k3 (.inl rfl)); clear k3; have D3 := Aside0.mk d3; have B3 := Aside0.mk (HB.out.trans b3); clear d3 b3; obtain ⟨A3, c3, g0, g1, g2, g3, g4, e2, e3, e4, hr3, -⟩ := sdec_cells D3.out)
      go_roundg (4 - (k + 1))
      case measure => have := HQ.out; omega
      case rel => exact ⟨k + 1, by first | rfl | go_num | simp, ⟨by have := HQ.out; omega⟩, ⟨by rw [HNX.out]; exact sdec_code D3.out _⟩, ⟨B3.out.setCell hr3 _⟩, ⟨HKB3.out.set_ _ _⟩⟩
    · have hk2 : ¬ (k : Int) < 4 := by omega
      have e := HQ.out
      obtain rfl : k = 4 := by omega
      clear e
      go_wp2
      go_ret
      exact ⟨r, g, q, rfl, by rw [← numAt_start]; exact HD.out, HB.out, HRQ.out.1, HRQ.out.2, HKB.out⟩

/-! ### spec_l09In_bit: function 70 (by hand) -/
theorem sdec_lik {w0 W : World} {r g q : Nat} {bs : List Int} {lik : List Int} {code width : Int} {n : Nat} (h : SDecAt w0 W r g q bs ⟨lik, code, width, n⟩) (i : Nat) (x : Int) :
    SDecAt w0 (W.setCell ⟨q, i, none⟩ (.int .i64 x)) r g q bs ⟨lik.set i x, code, width, n⟩ := by
  obtain ⟨L, hB, A, c0, G, hC⟩ := h
  obtain ⟨cs, hq, hqB⟩ := slikq_blk L.1 L.2
  exact ⟨⟨slikq_set L.1 L.2 i x, by show 0 < (lik.set i x).length; rw [List.length_set]; exact L.2⟩, hB, A, c0, blk_far G (blk_ne G hq (by decide)) _, hC⟩
set_option maxHeartbeats 4000000 in
set_option maxRecDepth 100000 in
theorem sBit_calls (r g q : Nat) (bs : List Int) (lik : List Int) (code width : Int) (n ctx : Nat) (w0 W : World) (h : SDecAt w0 W r g q bs ⟨lik, code, width, n⟩) (hs : DecOk ⟨lik, code, width, n⟩) (hc : ctx < 400) (hb : Below w0.heap.size w0 W) (hbs : BytesOk bs) (hn : n ≤ 1000000000) :
    Calls Try.prog 70 #[.pointer (some ⟨r, 0, none⟩), .int .i64 ctx] W fun e w' => e = .returned (.int .i64 (bitD ⟨lik, code, width, n⟩ ctx)) ∧ SDecAt w0 w' r g q bs (stepD bs ⟨lik, code, width, n⟩ ctx) ∧ Below w0.heap.size w0 w' ∧ KeepBut W w' r (some q) := by
  have hc0 : 0 ≤ code := hs.c0
  have hc1 : code ≤ 4294967295 := hs.c1
  have hw0 : 16777216 ≤ width := hs.w0
  have hw1 : width ≤ 4294967295 := hs.w1
  have hlk : LikOk lik := hs.lik
  have hr := lik_rd hlk (c := (ctx : Int)) (by omega) (by omega)
  have hpr := partE_range hlk hw0 (ctx := (ctx : Int)) (by omega) (by omega)
  have HD0 := Aside0.mk h
  have HB := Aside0.mk hb
  have HBS := Aside0.mk hbs
  obtain ⟨A, c, h0, h1, h2, h3, h4, f2, f3, f4, hrB, -⟩ := sdec_cells h
  obtain ⟨d0, k0, hx, hfx, -, -⟩ := slikq_cell h.1.1 ctx (show ctx < lik.length from by rw [hlk.1]; exact hc)
  replace k0 : W.cell? ⟨g, 0, none⟩ = some (.slice (some ⟨q, 0, none⟩) lik.length d0) := k0
  replace hx : W.cell? ⟨q, ctx, none⟩ = some (.int .i64 (rd lik (ctx : Int))) := hx
  have HCL := Aside0.mk (show ctx < lik.length from by rw [hlk.1]; exact hc)
  have hcl1 : (ctx : Int) < (lik.length : Int) := by have := HCL.out; omega
  have hcl2 : ctx < lik.length := HCL.out
  obtain ⟨x, HX⟩ : ∃ x, Aside0 (x = rd lik (ctx : Int)) := ⟨_, ⟨rfl⟩⟩
  rw [← HX.out] at hr hx
  obtain ⟨pt, HPT⟩ : ∃ pt, Aside0 (pt = partE lik width (ctx : Int)) := ⟨_, ⟨rfl⟩⟩
  rw [← HPT.out] at hpr
  have hmul : wrap64 (width / 4096 * x) = pt := by
    have e : width / 4096 * x = pt := by rw [HPT.out, HX.out]; rfl
    rw [e]
    exact w64 (by omega) (by omega)
  have hmul2 : IntKind.i64.wrap (width / 4096 * x) = pt := (i64_w _).trans hmul
  obtain ⟨hr0, hr1⟩ := hr
  obtain ⟨hp0, hp1⟩ := hpr
  clear hlk h hb hbs
  by_cases hcmp : code < pt
  · have HBD := Aside0.mk (show bitD ⟨lik, code, width, n⟩ ctx = 0 from by unfold bitD; simp only []; rw [← HPT.out, if_pos hcmp])
    have HCD := Aside0.mk (show codeD ⟨lik, code, width, n⟩ ctx = code from by unfold codeD; simp only []; rw [← HPT.out, if_pos hcmp])
    have HWD := Aside0.mk (show widthD ⟨lik, code, width, n⟩ ctx = pt from by unfold widthD; simp only []; rw [← HPT.out, if_pos hcmp])
    go_enter Try.func70, Try.ntmps70
    go_wp2
    go_quiet (fail)
    go_wp2_with fail
    obtain ⟨W1, HW1⟩ : ∃ W1, Aside0 (W1 = (W.drewN nq).setCell ⟨r, 4, none⟩ (.int .i64 pt)) := ⟨_, ⟨rfl⟩⟩
    have D1 := Aside0.mk (show SDecAt w0 W1 r g q bs ⟨lik, code, pt, n⟩ from by rw [HW1.out]; exact sdec_width (sdec_drewN HD0.out _) pt)
    have B1 := Aside0.mk (show Below w0.heap.size w0 W1 from by rw [HW1.out]; exact (pw_below_drewN HB.out _).setCell hrB _)
    have K1 := Aside0.mk (show KeepBut W W1 r (some q) from by rw [HW1.out]; exact (show KeepBut W (W.drewN nq) r (some q) from KeepBut.refl _ _ _).set_ _ _)
    rw [← HW1.out]
    clear HW1 h0 h1 h2 h3 h4 f2 f3 f4 k0 hx hfx
    obtain ⟨A1, c1, h0, h1, h2, h3, h4, f2, f3, f4, -, -⟩ := sdec_cells D1.out
    obtain ⟨d1, k0, hx, hfx, hql, hqB⟩ := slikq_cell D1.out.1.1 ctx HCL.out
    have HX2 := Aside0.mk (show W1.cell? ⟨g, 0, none⟩ = some (.slice (some ⟨q, 0, none⟩) lik.length d1) from k0)
    replace hx : W1.cell? ⟨q, ctx, none⟩ = some (.int .i64 (rd lik (ctx : Int))) := hx
    rw [← HX.out] at hx
    refine (sLearn_calls g q d1 lik.length ctx x 0 _ k0 hx hfx hr0 hr1 HCL.out).mono ?_
    rintro e w' ⟨rfl, ⟨nl, rfl⟩⟩
    obtain ⟨W2, HW2⟩ : ∃ W2, Aside0 (W2 = (W1.setCell ⟨q, ctx, none⟩ (.int .i64 (learnP x 0))).drewN nl) := ⟨_, ⟨rfl⟩⟩
    have D2 := Aside0.mk (show SDecAt w0 W2 r g q bs ⟨learnL lik ctx 0, code, pt, n⟩ from by
      rw [HW2.out]
      have := sdec_lik D1.out ctx (learnP x 0)
      rw [HX.out] at this ⊢
      exact sdec_drewN this _)
    have B2 := Aside0.mk (show Below w0.heap.size w0 W2 from by rw [HW2.out]; exact pw_below_drewN (B1.out.setCell hqB _) _)
    have K2 := Aside0.mk (show KeepBut W W2 r (some q) from by rw [HW2.out]; exact keep_row K1.out _ _)
    rw [← HW2.out]
    clear HW2 h0 h1 h2 h3 h4 f2 f3 f4 D1 B1 K1 k0 hx hfx HX2 hql hqB
    go_wp2
    obtain ⟨A2, c2, h0, h1, h2, h3, h4, f2, f3, f4, -, -⟩ := sdec_cells D2.out
    by_cases hsm : pt < 16777216
    · have HE := Aside0.mk (show stepD bs ⟨lik, code, width, n⟩ ctx = ⟨learnL lik ctx 0, code % 16777216 * 256 + byteAt bs n, pt * 256, n + 1⟩ from by
        unfold stepD
        rw [HWD.out, HBD.out, HCD.out, if_pos hsm])
      have hby := byteAt_range HBS.out n
      obtain ⟨y, HY⟩ : ∃ y, Aside0 (byteAt bs n = y) := ⟨_, ⟨rfl⟩⟩
      rw [HY.out] at hby HE
      obtain ⟨hy0, hy1⟩ := hby
      have hq0 : 0 ≤ code % 16777216 := by omega
      have hq1 : code % 16777216 ≤ 16777215 := by omega
      have hq2 : 16777216 ≤ 256 * pt := by omega
      have hq3 : 256 * pt ≤ 4294967296 := by omega
      refine wp_loop_rounds 2 ?_
      rw [rounds_succ]
      go_wp2_with (go_at_call 104; (with_reducible refine (sNext_calls r g q bs (learnL lik ctx 0) (code) (pt) n w0 _ D2.out B2.out HBS.out hn).mono ?_); rintro e W3 ⟨rfl, d3, b3, k3⟩; rw [HY.out]; have D3 := Aside0.mk d3; have K3 := Aside0.mk (KeepBut.trans K2.out k3 (.inl rfl)); clear k3; have B3 := Aside0.mk (B2.out.trans b3); clear d3 b3; obtain ⟨A3, c3, g0, g1, g2, g3, g4, e2, e3, e4, -, -⟩ := sdec_cells D3.out)
      rw [rounds_succ]
      go_wp2
      go_ret
      exact ⟨by rw [HBD.out] <;> rfl, by rw [HE.out, Int.mul_comm (pt) 256]; exact sdec_width (sdec_code D3.out _) _, (B3.out.setCell hrB _).setCell hrB _, (K3.out.set_ _ _).set_ _ _⟩
    · have HE := Aside0.mk (show stepD bs ⟨lik, code, width, n⟩ ctx = ⟨learnL lik ctx 0, code, pt, n⟩ from by
        unfold stepD
        rw [HWD.out, HBD.out, HCD.out, if_neg hsm])
      have hq2 : 16777216 ≤ pt := by omega
      refine wp_loop_rounds 1 ?_
      rw [rounds_succ]
      go_wp2
      go_ret
      exact ⟨by rw [HBD.out] <;> rfl, by rw [HE.out]; exact D2.out, B2.out, K2.out⟩
  · have HBD := Aside0.mk (show bitD ⟨lik, code, width, n⟩ ctx = 1 from by unfold bitD; simp only []; rw [← HPT.out, if_neg hcmp])
    have HCD := Aside0.mk (show codeD ⟨lik, code, width, n⟩ ctx = code - pt from by unfold codeD; simp only []; rw [← HPT.out, if_neg hcmp])
    have HWD := Aside0.mk (show widthD ⟨lik, code, width, n⟩ ctx = width - pt from by unfold widthD; simp only []; rw [← HPT.out, if_neg hcmp])
    have hge : pt ≤ code := by omega
    go_enter Try.func70, Try.ntmps70
    go_wp2
    go_quiet (fail)
    go_wp2_with fail
    obtain ⟨W1, HW1⟩ : ∃ W1, Aside0 (W1 = ((W.drewN nq).setCell ⟨r, 3, none⟩ (.int .i64 (code - pt))).setCell ⟨r, 4, none⟩ (.int .i64 (width - pt))) := ⟨_, ⟨rfl⟩⟩
    have D1 := Aside0.mk (show SDecAt w0 W1 r g q bs ⟨lik, (code - pt), (width - pt), n⟩ from by rw [HW1.out]; exact sdec_width (sdec_code (sdec_drewN HD0.out _) _) _)
    have B1 := Aside0.mk (show Below w0.heap.size w0 W1 from by rw [HW1.out]; exact ((pw_below_drewN HB.out _).setCell hrB _).setCell hrB _)
    have K1 := Aside0.mk (show KeepBut W W1 r (some q) from by rw [HW1.out]; exact ((show KeepBut W (W.drewN nq) r (some q) from KeepBut.refl _ _ _).set_ _ _).set_ _ _)
    rw [← HW1.out]
    clear HW1 h0 h1 h2 h3 h4 f2 f3 f4 k0 hx hfx
    obtain ⟨A1, c1, h0, h1, h2, h3, h4, f2, f3, f4, -, -⟩ := sdec_cells D1.out
    obtain ⟨d1, k0, hx, hfx, hql, hqB⟩ := slikq_cell D1.out.1.1 ctx HCL.out
    have HX2 := Aside0.mk (show W1.cell? ⟨g, 0, none⟩ = some (.slice (some ⟨q, 0, none⟩) lik.length d1) from k0)
    replace hx : W1.cell? ⟨q, ctx, none⟩ = some (.int .i64 (rd lik (ctx : Int))) := hx
    rw [← HX.out] at hx
    refine (sLearn_calls g q d1 lik.length ctx x 1 _ k0 hx hfx hr0 hr1 HCL.out).mono ?_
    rintro e w' ⟨rfl, ⟨nl, rfl⟩⟩
    obtain ⟨W2, HW2⟩ : ∃ W2, Aside0 (W2 = (W1.setCell ⟨q, ctx, none⟩ (.int .i64 (learnP x 1))).drewN nl) := ⟨_, ⟨rfl⟩⟩
    have D2 := Aside0.mk (show SDecAt w0 W2 r g q bs ⟨learnL lik ctx 1, (code - pt), (width - pt), n⟩ from by
      rw [HW2.out]
      have := sdec_lik D1.out ctx (learnP x 1)
      rw [HX.out] at this ⊢
      exact sdec_drewN this _)
    have B2 := Aside0.mk (show Below w0.heap.size w0 W2 from by rw [HW2.out]; exact pw_below_drewN (B1.out.setCell hqB _) _)
    have K2 := Aside0.mk (show KeepBut W W2 r (some q) from by rw [HW2.out]; exact keep_row K1.out _ _)
    rw [← HW2.out]
    clear HW2 h0 h1 h2 h3 h4 f2 f3 f4 D1 B1 K1 k0 hx hfx HX2 hql hqB
    go_wp2
    obtain ⟨A2, c2, h0, h1, h2, h3, h4, f2, f3, f4, -, -⟩ := sdec_cells D2.out
    by_cases hsm : (width - pt) < 16777216
    · have HE := Aside0.mk (show stepD bs ⟨lik, code, width, n⟩ ctx = ⟨learnL lik ctx 1, (code - pt) % 16777216 * 256 + byteAt bs n, (width - pt) * 256, n + 1⟩ from by
        unfold stepD
        rw [HWD.out, HBD.out, HCD.out, if_pos hsm])
      have hby := byteAt_range HBS.out n
      obtain ⟨y, HY⟩ : ∃ y, Aside0 (byteAt bs n = y) := ⟨_, ⟨rfl⟩⟩
      rw [HY.out] at hby HE
      obtain ⟨hy0, hy1⟩ := hby
      have hq0 : 0 ≤ (code - pt) % 16777216 := by omega
      have hq1 : (code - pt) % 16777216 ≤ 16777215 := by omega
      have hq2 : 16777216 ≤ 256 * (width - pt) := by omega
      have hq3 : 256 * (width - pt) ≤ 4294967296 := by omega
      refine wp_loop_rounds 2 ?_
      rw [rounds_succ]
      go_wp2_with (go_at_call 104; (with_reducible refine (sNext_calls r g q bs (learnL lik ctx 1) ((code - pt)) ((width - pt)) n w0 _ D2.out B2.out HBS.out hn).mono ?_); rintro e W3 ⟨rfl, d3, b3, k3⟩; rw [HY.out]; have D3 := Aside0.mk d3; have K3 := Aside0.mk (KeepBut.trans K2.out k3 (.inl rfl)); clear k3; have B3 := Aside0.mk (B2.out.trans b3); clear d3 b3; obtain ⟨A3, c3, g0, g1, g2, g3, g4, e2, e3, e4, -, -⟩ := sdec_cells D3.out)
      rw [rounds_succ]
      go_wp2
      go_ret
      exact ⟨by rw [HBD.out] <;> rfl, by rw [HE.out, Int.mul_comm ((width - pt)) 256]; exact sdec_width (sdec_code D3.out _) _, (B3.out.setCell hrB _).setCell hrB _, (K3.out.set_ _ _).set_ _ _⟩
    · have HE := Aside0.mk (show stepD bs ⟨lik, code, width, n⟩ ctx = ⟨learnL lik ctx 1, (code - pt), (width - pt), n⟩ from by
        unfold stepD
        rw [HWD.out, HBD.out, HCD.out, if_neg hsm])
      have hq2 : 16777216 ≤ (width - pt) := by omega
      refine wp_loop_rounds 1 ?_
      rw [rounds_succ]
      go_wp2
      go_ret
      exact ⟨by rw [HBD.out] <;> rfl, by rw [HE.out]; exact D2.out, B2.out, K2.out⟩
theorem sdec_grown {w0 W W1 : World} {r g q : Nat} {bs : List Int} {s : Dec} {B : Nat} {v : Value} {ys : List Int} (h : SDecAt w0 W r g q bs s) (hR : Kd.R (Kd.int .i64) 3 W B (fun j => j ≠ r ∧ j ≠ q) v ys) (hg : W.grownBy W1 v.ownBlock) : SDecAt w0 W1 r g q bs s := by
  obtain ⟨L, hB, A, c, G, h2⟩ := h
  obtain ⟨cs, hq, hqB⟩ := slikq_blk L.1 L.2
  have hqv : some q ≠ v.ownBlock := fun e => (hR.1 q e.symm).2 rfl
  obtain ⟨⟨gB, cg, GG, RR⟩, Ll⟩ := L
  refine ⟨⟨⟨gB, cg, blk_grown GG hg (Kd.R_ne hR GG (by decide)), ?_⟩, Ll⟩, hB, A, c, blk_grown G hg (Kd.R_ne hR G (by decide)), h2⟩
  obtain ⟨f1, cells, f2, f3⟩ := RR
  exact Kd.R_mono (Kd.R_step (Kd.R_bound (ok := fun j => j = q) ⟨fun k hk => by injection hk with hk; exact hk.symm, cells, f2, f3⟩) (fun k hk hlt => hg.block k hlt (by rw [hk.1]; exact hqv))) (fun _ _ => trivial)
theorem sout_keep {W W1 : World} {r q e B : Nat} {v : Value} {ys : List Int} (h : Kd.R (Kd.int .i64) e W B (fun j => j ≠ r ∧ j ≠ q) v ys) (hk : KeepBut W W1 r (some q)) : Kd.R (Kd.int .i64) e W1 B (fun j => j ≠ r ∧ j ≠ q) v ys :=
  Kd.R_step h (fun k ho hlt => hk.2 k hlt ho.1 (fun e => ho.2 (Option.some.inj e)))
theorem sdec_above {w0 W : World} {r g q : Nat} {bs : List Int} {s : Dec} (h : SDecAt w0 W r g q bs s) : ∀ k, W.heap.size ≤ k → k ≠ r ∧ k ≠ q := by
  obtain ⟨L, hB, A, c, G, h2⟩ := h
  obtain ⟨cs, hq, hqB⟩ := slikq_blk L.1 L.2
  have := blk_lt hq
  have := blk_lt G
  omega
theorem lit_int0 (w : World) (e : Nat) : Kd.R (Kd.int .i64) e (w.alloc (.cells #[] e)) w.heap.size (fun j => j = w.heap.size) (.slice (some ⟨w.heap.size, 0, none⟩) 0 0) [] := by
  have := World.ownsRow_lit (base := w.heap.size) (e := e) (size := 1) w #[] 0 (Nat.le_refl _) (by decide) (by simp)
  exact ⟨fun k hk => by injection hk with hk; exact hk.symm, [], this, Reps.none _ _⟩

/-! ### spec_l10Num: function 74 (by hand) -/
theorem sBit_x (r g p : Nat) (bs : List Int) (s : Dec) (x : Int) (w0 W : World) (h : SDecAt w0 W r g p bs s) (hs : DecOk s) (h0 : 0 ≤ x) (h1 : x < 400) (hb : Below w0.heap.size w0 W) (hbs : BytesOk bs) (ha : s.at_ ≤ 1000000000) :
    Calls Try.prog 70 #[.pointer (some ⟨r, 0, none⟩), .int .i64 x] W fun e w' => e = .returned (.int .i64 (bitD s x)) ∧ SDecAt w0 w' r g p bs (stepD bs s x) ∧ Below w0.heap.size w0 w' ∧ KeepBut W w' r (some p) := by
  obtain ⟨lik, code, width, n⟩ := s
  obtain ⟨c, rfl⟩ := Int.eq_ofNat_of_zero_le h0
  exact sBit_calls r g p bs lik code width n c w0 W h hs (by omega) hb hbs ha
set_option maxHeartbeats 4000000 in
set_option maxRecDepth 100000 in
theorem sNum_calls (r g p : Nat) (bs : List Int) (s : Dec) (base : Int) (w0 W : World) (h : SDecAt w0 W r g p bs s) (hs : DecOk s) (h0 : 0 ≤ base) (h1 : base ≤ 380) (hb : Below w0.heap.size w0 W) (hbs : BytesOk bs) (hat : s.at_ ≤ 900000000) :
    Calls Try.prog 74 #[.pointer (some ⟨r, 0, none⟩), .int .i64 base] W fun e w' => e = .returned (.int .i64 (numD bs base s).1) ∧ SDecAt w0 w' r g p bs (numD bs base s).2 ∧ Below w0.heap.size w0 w' ∧ KeepBut W w' r (some p) := by
  have D0 := Aside0.mk h
  have B0 := Aside0.mk hb
  have HBS := Aside0.mk hbs
  have S0 := Aside0.mk hs
  have K0 := Aside0.mk (KeepBut.refl W r (some p))
  have T0 := Aside0.mk hat
  clear h hb hbs hs hat
  by_cases hz : bitD s base = 1
  · have HN := Aside0.mk (show numD bs base s = (0, stepD bs s base) from by unfold numD; rw [if_pos hz])
    rw [HN.out]
    go_enter Try.func74, Try.ntmps74
    go_wp2_with (go_at_call 70; (with_reducible refine (sBit_x r g p bs s base w0 _ D0.out S0.out h0 (by omega) B0.out HBS.out (Nat.le_trans T0.out (by decide))).mono ?_); rintro e W1 ⟨rfl, d, b, k⟩; rw [hz]; have D1 := Aside0.mk d; have B1 := Aside0.mk b; have K1 := Aside0.mk (KeepBut.trans K0.out k (.inl rfl)); clear d b k)
    go_ret
    exact ⟨rfl, D1.out, B1.out, K1.out⟩
  · have hz0 : bitD s base = 0 := (bit01 s base).resolve_right hz
    clear hz
    obtain ⟨s1, HS1⟩ : ∃ t, Aside0 (t = stepD bs s base) := ⟨_, ⟨rfl⟩⟩
    have S1 := Aside0.mk (show DecOk s1 from by rw [HS1.out]; exact stepD_ok HBS.out S0.out h0 (by omega))
    have T1 := Aside0.mk (show s1.at_ ≤ 900000001 from by rw [HS1.out]; exact Nat.le_trans (stepD_at bs s base).2 (Nat.succ_le_succ T0.out))
    obtain ⟨sg, HSG⟩ : ∃ t, Aside0 (t = bitD s1 (base + 1)) := ⟨_, ⟨rfl⟩⟩
    have hsg : sg = 0 ∨ sg = 1 := by rw [HSG.out]; exact bit01 _ _
    obtain ⟨s2, HS2⟩ : ∃ t, Aside0 (t = stepD bs s1 (base + 1)) := ⟨_, ⟨rfl⟩⟩
    have S2 := Aside0.mk (show DecOk s2 from by rw [HS2.out]; exact stepD_ok HBS.out S1.out (by omega) (by omega))
    have T2 := Aside0.mk (show s2.at_ ≤ 900000002 from by rw [HS2.out]; exact Nat.le_trans (stepD_at bs s1 (base + 1)).2 (Nat.succ_le_succ T1.out))
    have HN := Aside0.mk (show numD bs base s = (if sg = 1 then -(magD bs (base + 18) ((clsD bs base 14 s2).1 - 1) 1 (clsD bs base 14 s2).2).1 else (magD bs (base + 18) ((clsD bs base 14 s2).1 - 1) 1 (clsD bs base 14 s2).2).1, (magD bs (base + 18) ((clsD bs base 14 s2).1 - 1) 1 (clsD bs base 14 s2).2).2) from by unfold numD; rw [hz0, if_neg (by decide), HS2.out, HSG.out, HS1.out])
    go_enter Try.func74, Try.ntmps74
    go_wp2_with (first
      | (go_at_call 70; (with_reducible refine (sBit_x r g p bs s base w0 _ D0.out S0.out h0 (by omega) B0.out HBS.out (Nat.le_trans T0.out (by decide))).mono ?_); rintro e W1 ⟨rfl, d, b, k⟩; rw [hz0]; rw [← HS1.out] at d; have D1 := Aside0.mk d; have B1 := Aside0.mk b; have K1 := Aside0.mk (KeepBut.trans K0.out k (.inl rfl)); clear d b k)
      | (go_at_call 70; (with_reducible refine (sBit_x r g p bs s1 (base + 1) w0 _ D1.out S1.out (by omega) (by omega) B1.out HBS.out (Nat.le_trans T1.out (by decide))).mono ?_); rintro e W2 ⟨rfl, d, b, k⟩; rw [← HSG.out]; rw [← HS2.out] at d; have D2 := Aside0.mk d; have B2 := Aside0.mk b; have K2 := Aside0.mk (KeepBut.trans K1.out k (.inl rfl)); clear d b k))
    clear hz0 HS1 HS2 HSG S0 S1 T0 T1
    go_loopg [6] 14 (fun kq vc w' => ∃ (d : Nat) (t : Dec), vc = .int .i64 (((15 - d : Nat) : Nat) : Int) ∧ Aside0 (d = kq ∧ d ≤ 14) ∧ Aside0 (DecOk t ∧ t.at_ + d ≤ 900000020) ∧ Aside0 (clsD bs base d t = clsD bs base 14 s2) ∧ Aside0 (SDecAt w0 w' r g p bs t) ∧ Aside0 (Below w0.heap.size w0 w') ∧ Aside0 (KeepBut W w' r (some p)))
    case atStart => exact ⟨14, s2, rfl, ⟨rfl, Nat.le_refl _⟩, ⟨S2.out, by have := T2.out; omega⟩, ⟨rfl⟩, D2, B2, K2⟩
    case round =>
      clear D2 B2 K2 S2 T2
      obtain ⟨d, t, rfl, HQ, HT, HC, D3, B3, K3⟩ := hrel
      obtain ⟨CN, HCN⟩ : ∃ CN : Nat, Aside0 (CN = 15 - d) := ⟨_, ⟨rfl⟩⟩
      rw [← HCN.out]
      have hc1 : 1 ≤ CN := by have := HCN.out; have := HQ.out.2; omega
      have hc15 : CN ≤ 15 := by have := HCN.out; omega
      have hci1 : 1 ≤ (CN : Int) := by omega
      have hci15 : (CN : Int) ≤ 15 := by omega
      rcases Nat.eq_zero_or_pos d with hd | hd
      · have hcl : ¬ (CN : Int) < 15 := by have := HCN.out; omega
        have HM := Aside0.mk (show clsD bs base 14 s2 = (CN, t) from by rw [← HC.out, HCN.out, hd]; rfl)
        have HT' := Aside0.mk (show DecOk t ∧ t.at_ ≤ 900000020 from ⟨HT.out.1, by have := HT.out.2; omega⟩)
        clear HC HT hd HQ HCN
        go_wp2
        have HNN := Aside0.mk (show numD bs base s = (if sg = 1 then -(magD bs (base + 18) (CN - 1) 1 t).1 else (magD bs (base + 18) (CN - 1) 1 t).1, (magD bs (base + 18) (CN - 1) 1 t).2) from by rw [HN.out, HM.out])
        clear HN HM
        go_loopg [7, 8] (CN - 1) (fun kq vn vi w' => ∃ (i : Nat) (n : Int) (t2 : Dec), vn = .int .i64 n ∧ vi = .int .i64 ((i + 1 : Nat) : Int) ∧ Aside0 (i + kq = CN - 1 ∧ 1 ≤ n ∧ n < 2 ^ (i + 1)) ∧ Aside0 (DecOk t2 ∧ t2.at_ ≤ 900000020 + i) ∧ Aside0 (magD bs (base + 18) (CN - 1 - i) n t2 = magD bs (base + 18) (CN - 1) 1 t) ∧ Aside0 (SDecAt w0 w' r g p bs t2) ∧ Aside0 (Below w0.heap.size w0 w') ∧ Aside0 (KeepBut W w' r (some p)))
        case atStart => exact ⟨0, 1, t, rfl, rfl, ⟨by omega, by decide, by decide⟩, ⟨HT'.out.1, HT'.out.2⟩, ⟨rfl⟩, D3, B3, K3⟩
        case round =>
          clear D3 B3 K3 HT'
          obtain ⟨i, n, t2, rfl, rfl, HQ2, HT2, HM2, D5, B5, K5⟩ := hrel
          by_cases hi : ((i + 1 : Nat) : Int) < (CN : Int)
          · have hn1 : 1 ≤ n := HQ2.out.2.1
            have hn2 : n < 32768 := Int.lt_of_lt_of_le HQ2.out.2.2 (pow2_le (by omega))
            obtain ⟨y, HY⟩ : ∃ y, Aside0 (y = bitD t2 (base + 18)) := ⟨_, ⟨rfl⟩⟩
            have hy : y = 0 ∨ y = 1 := by rw [HY.out]; exact bit01 _ _
            have hy0 : 0 ≤ y := by omega
            have hy1 : y ≤ 1 := by omega
            have HM3 := Aside0.mk (show magD bs (base + 18) (CN - 1 - (i + 1)) (2 * n + y) (stepD bs t2 (base + 18)) = magD bs (base + 18) (CN - 1) 1 t from by rw [← HM2.out, HY.out, show CN - 1 - i = (CN - 1 - (i + 1)) + 1 from by omega]; rfl)
            have HS6 := Aside0.mk (show DecOk (stepD bs t2 (base + 18)) from stepD_ok HBS.out HT2.out.1 (by omega) (by omega))
            have HT6 := Aside0.mk (show (stepD bs t2 (base + 18)).at_ ≤ 900000020 + (i + 1) from by have := (stepD_at bs t2 (base + 18)).2; have := HT2.out.2; omega)
            have HP := Aside0.mk (pow2_step i)
            clear hy HM2
            go_wp2_with (go_at_call 70; (with_reducible refine (sBit_x r g p bs t2 (base + 18) w0 _ D5.out HT2.out.1 (by omega) (by omega) B5.out HBS.out (by have := HT2.out.2; omega)).mono ?_); rintro e W6 ⟨rfl, d, b, k⟩; rw [← HY.out]; have D6 := Aside0.mk d; have B6 := Aside0.mk b; have K6 := Aside0.mk (KeepBut.trans K5.out k (.inl rfl)); clear d b k)
            go_roundg (CN - 1 - (i + 1))
            case measure => have := HQ2.out.1; omega
            case rel => exact ⟨i + 1, 2 * n + y, _, rfl, by first | rfl | go_num | simp, ⟨by have := HQ2.out.1; omega, by omega, by rw [HP.out]; have := HQ2.out.2.2; omega⟩, ⟨HS6.out, HT6.out⟩, HM3, D6, B6, K6⟩
          · have HEQ := Aside0.mk (show magD bs (base + 18) (CN - 1) 1 t = (n, t2) from by rw [← HM2.out, show CN - 1 - i = 0 from by have := HQ2.out.1; omega]; rfl)
            have HN5 := Aside0.mk (show numD bs base s = (if sg = 1 then -n else n, t2) from by rw [HNN.out, HEQ.out])
            have hn1 : 1 ≤ n := HQ2.out.2.1
            have hn2 : n < 65536 := Int.lt_of_lt_of_le HQ2.out.2.2 (Int.le_trans (pow2_le (by have := HQ2.out.1; omega)) (by decide))
            clear HNN HEQ HM2
            rcases hsg with hsg | hsg
            · subst hsg
              go_wp2
              go_ret
              exact ⟨by rw [HN5.out] <;> rfl, by rw [HN5.out]; exact D5.out, B5.out, K5.out⟩
            · subst hsg
              go_wp2
              go_ret
              exact ⟨by rw [HN5.out] <;> rfl, by rw [HN5.out]; exact D5.out, B5.out, K5.out⟩
      · obtain ⟨e, rfl⟩ : ∃ e, d = e + 1 := ⟨d - 1, by omega⟩
        have hcl : (CN : Int) < 15 := by have := HCN.out; have := HQ.out.2; omega
        have HX := Aside0.mk (show clsD bs base 14 s2 = if bitD t (base + 1 + (CN : Int)) = 1 then clsD bs base e (stepD bs t (base + 1 + (CN : Int))) else (CN, stepD bs t (base + 1 + (CN : Int))) from by rw [← HC.out, show CN = 14 - e from by have := HCN.out; omega]; rfl)
        have HV := Aside0.mk (show (((15 - e : Nat) : Nat) : Int) = (CN : Int) + 1 from by have := HCN.out; have := HQ.out.2; omega)
        have hT := (stepD_at bs t (base + 1 + (CN : Int))).2
        have HS4 := Aside0.mk (show DecOk (stepD bs t (base + 1 + (CN : Int))) from stepD_ok HBS.out HT.out.1 (by omega) (by omega))
        have HT4 := Aside0.mk (show (stepD bs t (base + 1 + (CN : Int))).at_ + e ≤ 900000020 from by have := HT.out.2; omega)
        clear hT hd HC HCN
        by_cases hbit : bitD t (base + 1 + (CN : Int)) = 1
        · have HX1 := Aside0.mk (show clsD bs base e (stepD bs t (base + 1 + (CN : Int))) = clsD bs base 14 s2 from by rw [HX.out, if_pos hbit])
          clear HX
          go_wp2_with (go_at_call 70; (with_reducible refine (sBit_x r g p bs t (base + 1 + (CN : Int)) w0 _ D3.out HT.out.1 (by omega) (by omega) B3.out HBS.out (by have := HT.out.2; omega)).mono ?_); rintro e W4 ⟨rfl, d, b, k⟩; rw [hbit]; have D4 := Aside0.mk d; have B4 := Aside0.mk b; have K4 := Aside0.mk (KeepBut.trans K3.out k (.inl rfl)); clear d b k)
          go_roundg e
          case measure => have := HQ.out.1; omega
          case rel => exact ⟨e, _, by rw [HV.out], ⟨rfl, by have := HQ.out.2; omega⟩, ⟨HS4.out, HT4.out⟩, HX1, D4, B4, K4⟩
        · have HM := Aside0.mk (show clsD bs base 14 s2 = (CN, stepD bs t (base + 1 + (CN : Int))) from by rw [HX.out, if_neg hbit])
          have hbit0 := (bit01 t (base + 1 + (CN : Int))).resolve_right hbit
          clear hbit HX HV
          go_wp2_with (go_at_call 70; (with_reducible refine (sBit_x r g p bs t (base + 1 + (CN : Int)) w0 _ D3.out HT.out.1 (by omega) (by omega) B3.out HBS.out (by have := HT.out.2; omega)).mono ?_); rintro e W4 ⟨rfl, d, b, k⟩; rw [hbit0]; have D4 := Aside0.mk d; have B4 := Aside0.mk b; have K4 := Aside0.mk (KeepBut.trans K3.out k (.inl rfl)); clear d b k)
          have HT' := Aside0.mk (show DecOk (stepD bs t (base + 1 + (CN : Int))) ∧ (stepD bs t (base + 1 + (CN : Int))).at_ ≤ 900000020 from ⟨HS4.out, by have := HT4.out; omega⟩)
          obtain ⟨tc, HTC⟩ : ∃ tc, Aside0 (tc = stepD bs t (base + 1 + (CN : Int))) := ⟨_, ⟨rfl⟩⟩
          rw [← HTC.out] at HM D4 HT'
          clear HTC HS4 HT4 HT D3 B3 K3 HQ hbit0
          have HNN := Aside0.mk (show numD bs base s = (if sg = 1 then -(magD bs (base + 18) (CN - 1) 1 tc).1 else (magD bs (base + 18) (CN - 1) 1 tc).1, (magD bs (base + 18) (CN - 1) 1 tc).2) from by rw [HN.out, HM.out])
          clear HN HM
          go_loopg [7, 8] (CN - 1) (fun kq vn vi w' => ∃ (i : Nat) (n : Int) (t2 : Dec), vn = .int .i64 n ∧ vi = .int .i64 ((i + 1 : Nat) : Int) ∧ Aside0 (i + kq = CN - 1 ∧ 1 ≤ n ∧ n < 2 ^ (i + 1)) ∧ Aside0 (DecOk t2 ∧ t2.at_ ≤ 900000020 + i) ∧ Aside0 (magD bs (base + 18) (CN - 1 - i) n t2 = magD bs (base + 18) (CN - 1) 1 tc) ∧ Aside0 (SDecAt w0 w' r g p bs t2) ∧ Aside0 (Below w0.heap.size w0 w') ∧ Aside0 (KeepBut W w' r (some p)))
          case atStart => exact ⟨0, 1, tc, rfl, rfl, ⟨by omega, by decide, by decide⟩, ⟨HT'.out.1, HT'.out.2⟩, ⟨rfl⟩, D4, B4, K4⟩
          case round =>
            clear D4 B4 K4 HT'
            obtain ⟨i, n, t2, rfl, rfl, HQ2, HT2, HM2, D5, B5, K5⟩ := hrel
            by_cases hi : ((i + 1 : Nat) : Int) < (CN : Int)
            · have hn1 : 1 ≤ n := HQ2.out.2.1
              have hn2 : n < 32768 := Int.lt_of_lt_of_le HQ2.out.2.2 (pow2_le (by omega))
              obtain ⟨y, HY⟩ : ∃ y, Aside0 (y = bitD t2 (base + 18)) := ⟨_, ⟨rfl⟩⟩
              have hy : y = 0 ∨ y = 1 := by rw [HY.out]; exact bit01 _ _
              have hy0 : 0 ≤ y := by omega
              have hy1 : y ≤ 1 := by omega
              have HM3 := Aside0.mk (show magD bs (base + 18) (CN - 1 - (i + 1)) (2 * n + y) (stepD bs t2 (base + 18)) = magD bs (base + 18) (CN - 1) 1 tc from by rw [← HM2.out, HY.out, show CN - 1 - i = (CN - 1 - (i + 1)) + 1 from by omega]; rfl)
              have HS6 := Aside0.mk (show DecOk (stepD bs t2 (base + 18)) from stepD_ok HBS.out HT2.out.1 (by omega) (by omega))
              have HT6 := Aside0.mk (show (stepD bs t2 (base + 18)).at_ ≤ 900000020 + (i + 1) from by have := (stepD_at bs t2 (base + 18)).2; have := HT2.out.2; omega)
              have HP := Aside0.mk (pow2_step i)
              clear hy HM2
              go_wp2_with (go_at_call 70; (with_reducible refine (sBit_x r g p bs t2 (base + 18) w0 _ D5.out HT2.out.1 (by omega) (by omega) B5.out HBS.out (by have := HT2.out.2; omega)).mono ?_); rintro e W6 ⟨rfl, d, b, k⟩; rw [← HY.out]; have D6 := Aside0.mk d; have B6 := Aside0.mk b; have K6 := Aside0.mk (KeepBut.trans K5.out k (.inl rfl)); clear d b k)
              go_roundg (CN - 1 - (i + 1))
              case measure => have := HQ2.out.1; omega
              case rel => exact ⟨i + 1, 2 * n + y, _, rfl, by first | rfl | go_num | simp, ⟨by have := HQ2.out.1; omega, by omega, by rw [HP.out]; have := HQ2.out.2.2; omega⟩, ⟨HS6.out, HT6.out⟩, HM3, D6, B6, K6⟩
            · have HEQ := Aside0.mk (show magD bs (base + 18) (CN - 1) 1 tc = (n, t2) from by rw [← HM2.out, show CN - 1 - i = 0 from by have := HQ2.out.1; omega]; rfl)
              have HN5 := Aside0.mk (show numD bs base s = (if sg = 1 then -n else n, t2) from by rw [HNN.out, HEQ.out])
              have hn1 : 1 ≤ n := HQ2.out.2.1
              have hn2 : n < 65536 := Int.lt_of_lt_of_le HQ2.out.2.2 (Int.le_trans (pow2_le (by have := HQ2.out.1; omega)) (by decide))
              clear HNN HEQ HM2
              rcases hsg with hsg | hsg
              · subst hsg
                go_wp2
                go_ret
                exact ⟨by rw [HN5.out] <;> rfl, by rw [HN5.out]; exact D5.out, B5.out, K5.out⟩
              · subst hsg
                go_wp2
                go_ret
                exact ⟨by rw [HN5.out] <;> rfl, by rw [HN5.out]; exact D5.out, B5.out, K5.out⟩

end Go.Proofs.Ytdeheflbigggbaa.CN
