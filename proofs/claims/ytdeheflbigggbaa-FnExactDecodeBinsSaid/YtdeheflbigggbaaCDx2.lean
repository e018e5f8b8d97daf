/- Functions that a law of this seat reaches: written by a program of this session (wip/xprint.py), and by hand. -/
import Derived.Test.YtdeheflbigggbaaCDx0
import Derived.Test.YtdeheflbigggbaaCDx1
namespace Go.Proofs.Ytdeheflbigggbaa.CD
open Go.RowKit Go.Proofs.Ytdeheflbigggbaa.B Go.Proofs.YtdeheflbigggbaaW.PrintWords Go.Proofs.YtdeheflbigggbaaW.PrintLast Go.Proofs.YtdeheflbigggbaaW.PrintMore
attribute [local go_sem] max2_int min2_int max_two min_two max_three min_three max_four min_four   -- for this text's walks alone
set_option linter.unusedVariables false
set_option linter.unusedSimpArgs false

/-! ### spec_l09Out_lay: function 103 (by hand) -/
theorem slik_grown {W W1 : World} {B g : Nat} {lik : List Int} {B' : Nat} {v' : Value} {ys : List Int} (h : SLikAt W B g lik) (h' : Kd.R (Kd.int .u8) 5 W B' (fun _ => True) v' ys) (hg : W.grownBy W1 v'.ownBlock) : SLikAt W1 B g lik := by
  obtain ⟨hB, v, G, hR⟩ := h
  exact ⟨hB, v, blk_grown G hg (Kd.R_ne h' G (by decide)), row_kept hR h' (by decide) hg⟩
theorem slik_far {W : World} {B g : Nat} {lik : List Int} (h : SLikAt W B g lik) {b : Nat} {cs : Array Value} {t : TypeId} (hb : W.heap[b]? = some (.cells cs t (0, 0))) (h1 : 3 ≠ t) (h2 : 110 ≠ t) (i : Nat) (u : Value) : SLikAt (W.setCell ⟨b, i, none⟩ u) B g lik := by
  obtain ⟨hB, v, G, hR⟩ := h
  exact ⟨hB, v, blk_far G (blk_ne G hb h2) _, Kd.R_set hR hb (fun q hq => by rcases List.mem_singleton.1 hq with rfl; exact h1) i u⟩
theorem slik_far8 {W : World} {B g : Nat} {lik : List Int} (h : SLikAt W B g lik) {b : Nat} {cs : Array Value} (hb : W.heap[b]? = some (.cells cs 5 (0, 0))) (i : Nat) (u : Value) : SLikAt (W.setCell ⟨b, i, none⟩ u) B g lik := slik_far h hb (by decide) (by decide) i u
def SEncAt (W : World) (B b g : Nat) (s : Enc) : Prop :=
  SLikAt W B g s.lik ∧ B ≤ b ∧ ∃ v, W.heap[b]? = some (.cells #[.pointer (some ⟨g, 0, none⟩), .int .i64 s.low, .int .i64 s.width, v] 108 (0, 0)) ∧ Kd.R (Kd.int .u8) 5 W B (fun _ => True) v s.out
theorem senc_put {W : World} {B b g : Nat} {lik : List Int} {low width : Int} {v v1 : Value} {out : List Int} (G : W.heap[b]? = some (.cells #[.pointer (some ⟨g, 0, none⟩), .int .i64 low, .int .i64 width, v] 108 (0, 0)))
    (L : SLikAt W B g lik) (hB : B ≤ b) (ho : Kd.R (Kd.int .u8) 5 W B (fun _ => True) v1 out) : SEncAt (W.setCell ⟨b, 3, none⟩ v1) B b g ⟨lik, low, width, out⟩ := by
  refine ⟨slik_far L G (by decide) (by decide) 3 v1, hB, v1, ?_, Kd.R_set ho G (by decide) 3 v1⟩
  rw [blk_set G 3]
  rfl
theorem senc_low {W : World} {B b g : Nat} {s : Enc} (h : SEncAt W B b g s) (x : Int) : SEncAt (W.setCell ⟨b, 1, none⟩ (.int .i64 x)) B b g ⟨s.lik, x, s.width, s.out⟩ := by
  obtain ⟨L, hB, v, G, ho⟩ := h
  refine ⟨slik_far L G (by decide) (by decide) 1 _, hB, v, ?_, Kd.R_set ho G (by decide) 1 _⟩
  rw [blk_set G 1]
  rfl
theorem senc_width {W : World} {B b g : Nat} {s : Enc} (h : SEncAt W B b g s) (x : Int) : SEncAt (W.setCell ⟨b, 2, none⟩ (.int .i64 x)) B b g ⟨s.lik, s.low, x, s.out⟩ := by
  obtain ⟨L, hB, v, G, ho⟩ := h
  refine ⟨slik_far L G (by decide) (by decide) 2 _, hB, v, ?_, Kd.R_set ho G (by decide) 2 _⟩
  rw [blk_set G 2]
  rfl
theorem senc_drew {W : World} {B b g : Nat} {s : Enc} (h : SEncAt W B b g s) : SEncAt W.drew B b g s := h
theorem senc_drewN {W : World} {B b g : Nat} {s : Enc} (h : SEncAt W B b g s) (n : Nat) : SEncAt (W.drewN n) B b g s := h
theorem senc_lt {W : World} {B b g : Nat} {s : Enc} (h : SEncAt W B b g s) : B ≤ W.heap.size := by
  obtain ⟨L, hB, v, G, ho⟩ := h
  have := blk_lt G
  omega
theorem senc_cells {W : World} {B b g : Nat} {lik : List Int} {low width : Int} {out : List Int} (h : SEncAt W B b g ⟨lik, low, width, out⟩) :
    W.cell? ⟨b, 0, none⟩ = some (.pointer (some ⟨g, 0, none⟩)) ∧ W.cell? ⟨b, 1, none⟩ = some (.int .i64 low) ∧ W.cell? ⟨b, 2, none⟩ = some (.int .i64 width) ∧ W.frozen? ⟨b, 1, none⟩ = false ∧ W.frozen? ⟨b, 2, none⟩ = false ∧ b < W.heap.size := by
  obtain ⟨L, hB, v, G, ho⟩ := h
  exact ⟨(blk_cell G 0).trans rfl, (blk_cell G 1).trans rfl, (blk_cell G 2).trans rfl, blk_frozen G 1, blk_frozen G 2, blk_lt G⟩
set_option maxHeartbeats 4000000 in
set_option maxRecDepth 100000 in
theorem sLay_calls (B b g : Nat) (lik : List Int) (low width : Int) (out : List Int) (w : World) (h : SEncAt w B b g ⟨lik, low, width, out⟩) (ho : BytesOk out) (h0 : 0 ≤ low) (h1 : low < 8589934592) (hl : out.length ≤ 100000000) :
    Calls Try.prog 103 #[.pointer (some ⟨b, 0, none⟩)] w fun e w' => e = .returned (.tuple #[]) ∧ SEncAt w' B b g ⟨lik, low % 16777216 * 256, width, layL out (low / 16777216)⟩ ∧ Below B w w' := by
  have HS := Aside0.mk (senc_lt h)
  obtain ⟨L, hP, v, G, hR⟩ := h
  have HL := Aside0.mk L
  have HP := Aside0.mk hP
  have HG := Aside0.mk G
  have HO := Aside0.mk hR
  have HN := Aside0.mk hl
  have HB := Aside0.mk (Below.refl B w)
  have hc1 : w.cell? ⟨b, 1, none⟩ = some (.int .i64 low) := (blk_cell G 1).trans rfl
  have hc3 : w.cell? ⟨b, 3, none⟩ = some v := (blk_cell G 3).trans rfl
  have hf3 := blk_frozen G 3
  clear L hP G hR hl
  by_cases hn : 256 ≤ low / 16777216
  · have HE := Aside0.mk (show layL out (low / 16777216) = carryL out ++ [low / 16777216 - 256] from by unfold layL; rw [if_pos hn]; congr 2; omega)
    rw [HE.out]
    clear HE
    obtain ⟨A, c, rfl, hle, hC⟩ := Kd.R_reads HO.out
    clear hle hC
    have hlen : out.length ≤ 100000000 := HN.out
    have hq : low / 16777216 < 512 := by omega
    go_enter Try.func103, Try.ntmps103
    go_wp2
    go_loopg [3] out.length (fun kq v3 w' => ∃ (j : Nat) (i : Int), v3 = .int .i64 i ∧ Aside0 (i = (j : Int) - 1 ∧ j = kq ∧ j ≤ out.length ∧ Full out j) ∧ Aside0 (Kd.R (Kd.int .u8) 5 w' B (fun _ => True) (.slice A out.length c) (zeroed out j)) ∧ Aside0 (w'.heap[b]? = some (.cells #[.pointer (some ⟨g, 0, none⟩), .int .i64 low, .int .i64 width, .slice A out.length c] 108 (0, 0))) ∧ Aside0 (SLikAt w' B g lik) ∧ Aside0 (Below B w w'))
    case atStart => exact ⟨out.length, _, rfl, ⟨rfl, rfl, Nat.le_refl _, (full_all out).1⟩, ⟨by rw [(full_all out).2]; exact HO.out⟩, HG, HL, HB⟩
    case round =>
      clear HO HG HL HB hc3 hf3 HS hc1
      obtain ⟨j, i, rfl, HJ, HO, HG, HL, HB⟩ := hrel
      obtain ⟨ji, jk, jl, jf⟩ := HJ.out
      have HS := Aside0.mk (show B ≤ wr.heap.size from by have := blk_lt HG.out; have := HP.out; omega)
      have hc1 : wr.cell? ⟨b, 1, none⟩ = some (.int .i64 low) := (blk_cell HG.out 1).trans rfl
      have hc3 : wr.cell? ⟨b, 3, none⟩ = some (.slice A out.length c) := (blk_cell HG.out 3).trans rfl
      have hf3 := blk_frozen HG.out 3
      have hf1 := blk_frozen HG.out 1
      have JF := Aside0.mk jf
      have JI := Aside0.mk ji
      clear HJ jf
      cases j with
      | zero =>
        have hi : i < 0 := by omega
        have HQ := Aside0.mk (full_none JF.out)
        clear ji jk
        have HN := Aside0.mk (show (zeroed out 0).length ≤ 100000000 from by rw [zeroed_length (by omega)]; exact hlen)
        go_wp2_with (first
          | ((with_reducible refine gate_builtin (b := .append) (xs := #[.tmp 59, .tmp 62]) rfl ?_); at_builtin; refine Kd.R_append (Kd.int .u8) (w0 := w) B rfl (.tmp 59) (.tmp 62) 27 5 (.int .u8 0) 1 rfl Try.underlying27 info5 rfl (by decide) (by omega) (.slice A out.length c) (zeroed out 0) (low / 16777216 - 256) [.int .u8 (low / 16777216 - 256)] (fun _ => True) (fun _ => False) rfl rfl ?aP (fun _ hk => hk.elim) ?aF ?aO ?aB ?aS ?aL ?_; (case aP => exact rfl); (case aF => exact (fun _ _ => trivial)); (case aO => exact HO.out); (case aB => exact HB.out); (case aS => exact HS.out); (case aL => have := HN.out; omega); intro v1 w1 ho hb hg hat; obtain ⟨g1, c1, rfl, -⟩ := Kd.R_form ho (by simp); have G1 := blk_grown HG.out hg (Kd.R_ne HO.out HG.out (by decide)); have L1 := slik_grown HL.out HO.out hg; have k3 : w1.cell? ⟨b, 3, none⟩ = some (.slice A out.length c) := (blk_cell G1 3).trans rfl; have k1 : w1.cell? ⟨b, 1, none⟩ = some (.int .i64 low) := (blk_cell G1 1).trans rfl; have f3 := blk_frozen G1 3; have f1 := blk_frozen G1 1; have HF := Aside0.mk (senc_put G1 L1 HP.out ho); have HB1 := Aside0.mk (show Below B w (w1.setCell ⟨b, 3, none⟩ _) from hb.setCell HP.out (.slice (some ⟨g1, 0, none⟩) (zeroed out 0 ++ [low / 16777216 - 256]).length c1)); clear hb hg hat ho G1 L1))
        go_end0
        exact ⟨rfl, by rw [HQ.out]; have := senc_low HF.out (low % 16777216 * 256); simp only [List.length_append, List.length_cons, List.length_nil, Nat.zero_add] at this; exact this, by have := HB1.out.setCell (p := ⟨b, 1, none⟩) HP.out (.int .i64 (low % 16777216 * 256)); simp only [List.length_append, List.length_cons, List.length_nil, Nat.zero_add] at this; exact this⟩
      | succ j =>
        have hi : 0 ≤ i := by omega
        have hi2 : i < (out.length : Int) := by omega
        have HI := Aside0.mk (show i.toNat = j from by omega)
        have JK := Aside0.mk jk
        clear ji jk
        obtain ⟨g2, c', e, hg0, hg1, cells, hcells⟩ := Kd.R_form HO.out (by rw [zeroed_length jl]; omega)
        injection e with e1 e2 e3
        subst e1
        clear e2 e3
        have GB := Aside0.mk hg0
        have GT := Aside0.mk hcells
        clear hg0 hg1 hcells
        obtain ⟨hx, hfx⟩ := Kd.R_celln 0 HO.out i hi hi2
        have HX := Aside0.mk (show rdOf 0 (zeroed out (j + 1)) i = rd out (j : Int) from by have e := JI.out; rw [show i = (j : Int) from by omega]; exact zeroed_rd jl)
        rw [HX.out] at hx
        clear HX
        have hr := rd_range0 (l := out) (lo := 0) (hi := 255) ho (by omega) (by omega) (j : Int)
        by_cases h255 : rd out (j : Int) = 255
        · rw [h255] at hx
          have HPt := Aside0.mk (Kd.R_putg HO.out i 0).1
          have HFN := Aside0.mk (full_next jl JF.out h255)
          go_wp2
          go_roundg j
          case measure => have := JK.out; omega
          case rel =>
            refine ⟨j, _, rfl, ⟨by have := JI.out; omega, rfl, by omega, HFN.out.1⟩, ⟨?_⟩, ⟨blk_far HG.out (blk_ne HG.out GT.out (by decide)) _⟩, ⟨slik_far8 HL.out GT.out _ _⟩, ⟨HB.out.setCell GB.out _⟩⟩
            have e := HFN.out.2
            have := HPt.out
            rw [HI.out] at this ⊢
            rw [e] at this
            exact this
        · obtain ⟨y, HY⟩ : ∃ y, Aside0 (y = rd out (j : Int)) := ⟨_, ⟨rfl⟩⟩
          rw [← HY.out] at hx hr h255
          have hy0 : 0 ≤ y := hr.1
          have hy1 : y ≤ 254 := by omega
          have hy2 : (y == 255) = false := beq_eq_false_iff_ne.mpr h255
          have HPt := Aside0.mk (Kd.R_putg HO.out i (y + 1)).1
          have HFS := Aside0.mk (show (zeroed out (j + 1)).set i.toNat (y + 1) = carryL out from by rw [HI.out, HY.out]; exact full_stop jl JF.out (by rw [← HY.out]; exact h255))
          have HG2 := Aside0.mk (blk_far HG.out (blk_ne HG.out GT.out (by decide)) (.int .u8 (y + 1)) (p := ⟨g2, i.toNat, none⟩))
          have HL2 := Aside0.mk (slik_far8 HL.out GT.out i.toNat (.int .u8 (y + 1)))
          have HB2 := Aside0.mk (show Below B w (wr.setCell ⟨g2, i.toNat, none⟩ (.int .u8 (y + 1))) from HB.out.setCell GB.out _)
          have HN := Aside0.mk (show ((zeroed out (j + 1)).set i.toNat (y + 1)).length ≤ 100000000 from by rw [List.length_set, zeroed_length jl]; exact hlen)
          have HS := Aside0.mk (show B ≤ (wr.setCell ⟨g2, i.toNat, none⟩ (.int .u8 (y + 1))).heap.size from by rw [World.size_setCell]; exact HS.out)
          clear h255 hr
          go_wp2
          go_region
          obtain ⟨W, HW⟩ : ∃ W, Aside0 (W = (wr.setCell ⟨g2, i.toNat, none⟩ (.int .u8 (y + 1))).drew) := ⟨_, ⟨rfl⟩⟩
          have HO2 := Aside0.mk (show Kd.R (Kd.int .u8) 5 W B (fun _ => True) (.slice (some ⟨g2, 0, none⟩) out.length c) ((zeroed out (j + 1)).set i.toNat (y + 1)) from by rw [HW.out]; exact HPt.out)
          have HG3 := Aside0.mk (show W.heap[b]? = some (.cells #[.pointer (some ⟨g, 0, none⟩), .int .i64 low, .int .i64 width, .slice (some ⟨g2, 0, none⟩) out.length c] 108 (0, 0)) from by rw [HW.out]; exact HG2.out)
          have HL3 := Aside0.mk (show SLikAt W B g lik from by rw [HW.out]; exact HL2.out)
          have HB3 := Aside0.mk (show Below B w W from by rw [HW.out]; exact below_drew HB2.out)
          have HS3 := Aside0.mk (show B ≤ W.heap.size from by rw [HW.out]; exact HS.out)
          rw [← HW.out]
          clear HW hc1 hc3 hf3 hf1 hx hfx HO HG HL HB HS HPt HG2 HL2 HB2
          have HO := HO2
          have HG := HG3
          have HL := HL3
          have HB := HB3
          have HS := HS3
          clear HO2 HG3 HL3 HB3 HS3
          have hc1 : W.cell? ⟨b, 1, none⟩ = some (.int .i64 low) := (blk_cell HG.out 1).trans rfl
          have hc3 : W.cell? ⟨b, 3, none⟩ = some (.slice (some ⟨g2, 0, none⟩) out.length c) := (blk_cell HG.out 3).trans rfl
          have hf3 := blk_frozen HG.out 3
          have hf1 := blk_frozen HG.out 1
          go_wp2_with (first
            | ((with_reducible refine gate_builtin (b := .append) (xs := #[.tmp 59, .tmp 62]) rfl ?_); at_builtin; refine Kd.R_append (Kd.int .u8) (w0 := w) B rfl (.tmp 59) (.tmp 62) 27 5 (.int .u8 0) 1 rfl Try.underlying27 info5 rfl (by decide) (by omega) (.slice (some ⟨g2, 0, none⟩) out.length c) ((zeroed out (j + 1)).set i.toNat (y + 1)) (low / 16777216 - 256) [.int .u8 (low / 16777216 - 256)] (fun _ => True) (fun _ => False) rfl rfl ?aP (fun _ hk => hk.elim) ?aF ?aO ?aB ?aS ?aL ?_; (case aP => exact rfl); (case aF => exact (fun _ _ => trivial)); (case aO => exact HO.out); (case aB => exact HB.out); (case aS => exact HS.out); (case aL => have := HN.out; omega); intro v1 w1 ho hb hg hat; obtain ⟨g1, c1, rfl, -⟩ := Kd.R_form ho (by simp); have G1 := blk_grown HG.out hg (Kd.R_ne HO.out HG.out (by decide)); have L1 := slik_grown HL.out HO.out hg; have k3 : w1.cell? ⟨b, 3, none⟩ = some (.slice (some ⟨g2, 0, none⟩) out.length c) := (blk_cell G1 3).trans rfl; have k1 : w1.cell? ⟨b, 1, none⟩ = some (.int .i64 low) := (blk_cell G1 1).trans rfl; have f3 := blk_frozen G1 3; have f1 := blk_frozen G1 1; have HF := Aside0.mk (senc_put G1 L1 HP.out ho); have HB1 := Aside0.mk (show Below B w (w1.setCell ⟨b, 3, none⟩ _) from hb.setCell HP.out (.slice (some ⟨g1, 0, none⟩) ((zeroed out (j + 1)).set i.toNat (y + 1) ++ [low / 16777216 - 256]).length c1)); clear hb hg hat ho G1 L1))
          go_end0
          exact ⟨rfl, by rw [← HFS.out]; have := senc_low HF.out (low % 16777216 * 256); simp only [List.length_append, List.length_set, List.length_cons, List.length_nil, Nat.zero_add] at this; exact this, by have := HB1.out.setCell (p := ⟨b, 1, none⟩) HP.out (.int .i64 (low % 16777216 * 256)); simp only [List.length_append, List.length_set, List.length_cons, List.length_nil, Nat.zero_add] at this; exact this⟩
  · have hn' : low / 16777216 ≤ 255 := by omega
    have hq : 0 ≤ low / 16777216 := by omega
    have HE := Aside0.mk (show layL out (low / 16777216) = out ++ [low / 16777216] from by unfold layL; rw [if_neg hn, Int.emod_eq_of_lt (by omega) (by omega)])
    rw [HE.out]
    clear HE hn
    have hf1 := blk_frozen HG.out 1
    go_enter Try.func103, Try.ntmps103
    go_wp2_with (first
      | ((with_reducible refine gate_builtin (b := .append) (xs := #[.tmp 59, .tmp 62]) rfl ?_); at_builtin; refine Kd.R_append (Kd.int .u8) (w0 := w) B rfl (.tmp 59) (.tmp 62) 27 5 (.int .u8 0) 1 rfl Try.underlying27 info5 rfl (by decide) (by omega) (v) (out) (low / 16777216) [.int .u8 (low / 16777216)] (fun _ => True) (fun _ => False) rfl rfl ?aP (fun _ hk => hk.elim) ?aF ?aO ?aB ?aS ?aL ?_; (case aP => exact rfl); (case aF => exact (fun _ _ => trivial)); (case aO => exact HO.out); (case aB => exact HB.out); (case aS => exact HS.out); (case aL => have := HN.out; omega); intro v1 w1 ho hb hg hat; obtain ⟨g1, c1, rfl, -⟩ := Kd.R_form ho (by simp); have G1 := blk_grown HG.out hg (Kd.R_ne HO.out HG.out (by decide)); have L1 := slik_grown HL.out HO.out hg; have k3 : w1.cell? ⟨b, 3, none⟩ = some (v) := (blk_cell G1 3).trans rfl; have k1 : w1.cell? ⟨b, 1, none⟩ = some (.int .i64 low) := (blk_cell G1 1).trans rfl; have f3 := blk_frozen G1 3; have f1 := blk_frozen G1 1; have HF := Aside0.mk (senc_put G1 L1 HP.out ho); have HB1 := Aside0.mk (show Below B w (w1.setCell ⟨b, 3, none⟩ _) from hb.setCell HP.out (.slice (some ⟨g1, 0, none⟩) (out ++ [low / 16777216]).length c1)); clear hb hg hat ho G1 L1))
    go_end0
    exact ⟨rfl, by have := senc_low HF.out (low % 16777216 * 256); simp only [List.length_append, List.length_cons, List.length_nil, Nat.zero_add] at this; exact this, by have := HB1.out.setCell (p := ⟨b, 1, none⟩) HP.out (.int .i64 (low % 16777216 * 256)); simp only [List.length_append, List.length_cons, List.length_nil, Nat.zero_add] at this; exact this⟩

/-! ### spec_l09Out_put: function 67 (by hand) -/
theorem senc_lik {W : World} {B b g q c : Nat} {s : Enc} (h : SEncAt W B b g s) (hq : W.cell? ⟨g, 0, none⟩ = some (.slice (some ⟨q, 0, none⟩) s.lik.length c)) (hl : 0 < s.lik.length) (i : Nat) (x : Int) :
    SEncAt (W.setCell ⟨q, i, none⟩ (.int .i64 x)) B b g ⟨s.lik.set i x, s.low, s.width, s.out⟩ := by
  obtain ⟨L, hB, v, G, ho⟩ := h
  have L2 := slik_set L hq hl i x
  obtain ⟨hB2, v2, G2, hR⟩ := L
  have e : W.cell? ⟨g, 0, none⟩ = some v2 := (blk_cell G2 0).trans rfl
  rw [hq] at e
  injection e with e
  subst e
  obtain ⟨q', c', e2, hq0, hq1, cells, hc⟩ := Kd.R_form hR hl
  injection e2 with e2 _ _
  injection e2 with e2
  injection e2 with e2 _ _
  subst e2
  exact ⟨L2, hB, v, blk_far G (blk_ne G hc (by decide)) _, Kd.R_set ho hc (by decide) i _⟩
set_option maxHeartbeats 4000000 in
set_option maxRecDepth 100000 in
theorem sPut_calls (B b g : Nat) (lik : List Int) (low width : Int) (out : List Int) (ctx : Nat) (bit : Int) (hbit : bit = 0 ∨ bit = 1) (w : World) (h : SEncAt w B b g ⟨lik, low, width, out⟩) (hs : EncOk ⟨lik, low, width, out⟩) (hc : ctx < 400) (hl : out.length ≤ 10000000) :
    Calls Try.prog 67 #[.pointer (some ⟨b, 0, none⟩), .int .i64 ctx, .int .i64 bit] w fun e w' => e = .returned (.tuple #[]) ∧ SEncAt w' B b g (putE ⟨lik, low, width, out⟩ ctx bit) ∧ Below B w w' := by
  have hlo : 0 ≤ low := hs.low0
  have hsum : low + width ≤ 8589934592 := hs.sum
  have hw0 : 16777216 ≤ width := hs.w0
  have hw1 : width ≤ 4294967295 := hs.w1
  have hlk : LikOk lik := hs.lik
  have hbo : BytesOk out := hs.out
  have hr := lik_rd hlk (c := (ctx : Int)) (by omega) (by omega)
  have hpr := partE_range hlk hw0 (ctx := (ctx : Int)) (by omega) (by omega)
  have HSZ := Aside0.mk (senc_lt h)
  have HE0 := Aside0.mk h
  have HP := Aside0.mk (show B ≤ b from h.2.1)
  obtain ⟨hb0, hb1, hb2, hf1, hf2, hbl⟩ := senc_cells h
  obtain ⟨q0, c0, h0, hx, hfx, -, -⟩ := slik_cell h.1 ctx (show ctx < lik.length from by rw [hlk.1]; exact hc)
  replace h0 : w.cell? ⟨g, 0, none⟩ = some (.slice (some ⟨q0, 0, none⟩) lik.length c0) := h0
  replace hx : w.cell? ⟨q0, ctx, none⟩ = some (.int .i64 (rd lik (ctx : Int))) := hx
  have HCL := Aside0.mk (show ctx < lik.length from by rw [hlk.1]; exact hc)
  have hcl1 : (ctx : Int) < (lik.length : Int) := by have := HCL.out; omega
  have hcl2 : ctx < lik.length := HCL.out
  obtain ⟨x, HX⟩ : ∃ x, Aside0 (x = rd lik (ctx : Int)) := ⟨_, ⟨rfl⟩⟩
  rw [← HX.out] at hr hx
  obtain ⟨pt, HPT⟩ : ∃ pt, Aside0 (pt = partE lik width (ctx : Int)) := ⟨_, ⟨rfl⟩⟩
  rw [← HPT.out] at hpr
  have hmul : wrap64 (width / 4096 * x) = pt := by
    have e : width / 4096 * x = pt := by rw [HPT.out, HX.out]; rfl
    rw [e]
    exact w64 (by omega) (by omega)
  have hmul2 : IntKind.i64.wrap (width / 4096 * x) = pt := (i64_w _).trans hmul
  obtain ⟨hr0, hr1⟩ := hr
  obtain ⟨hp0, hp1⟩ := hpr
  have HK := Aside0.mk hlk
  have HBO := Aside0.mk hbo
  have HN := Aside0.mk hl
  clear hlk hbo hl
  rcases hbit with rfl | rfl
  · go_enter Try.func67, Try.ntmps67
    go_wp2
    go_quiet (fail)
    go_wp2_with fail
    obtain ⟨W1, HW1⟩ : ∃ W1, Aside0 (W1 = (w.drewN nq).setCell ⟨b, 2, none⟩ (.int .i64 pt)) := ⟨_, ⟨rfl⟩⟩
    have E1 := Aside0.mk (show SEncAt W1 B b g ⟨lik, low, pt, out⟩ from by rw [HW1.out]; exact senc_width (senc_drewN HE0.out _) pt)
    have B1 := Aside0.mk (show Below B w W1 from by rw [HW1.out]; exact (pw_below_drewN (Below.refl B w) _).setCell HP.out _)
    rw [← HW1.out]
    clear HW1 hb1 hb2 hf1 hf2 hb0 hx hfx h0
    obtain ⟨hb0, hb1, hb2, hf1, hf2, hbl1⟩ := senc_cells E1.out
    obtain ⟨q1, c1, h0, hx, hfx, hql, hqB⟩ := slik_cell E1.out.1 ctx HCL.out
    have HX2 := Aside0.mk (show W1.cell? ⟨g, 0, none⟩ = some (.slice (some ⟨q1, 0, none⟩) lik.length c1) from h0)
    replace hx : W1.cell? ⟨q1, ctx, none⟩ = some (.int .i64 (rd lik (ctx : Int))) := hx
    rw [← HX.out] at hx
    refine (sLearn_calls g q1 c1 lik.length ctx x 0 _ h0 hx hfx hr0 hr1 HCL.out).mono ?_
    rintro e w' ⟨rfl, ⟨nl, rfl⟩⟩
    go_wp2
    obtain ⟨W2, HW2⟩ : ∃ W2, Aside0 (W2 = (W1.setCell ⟨q1, ctx, none⟩ (.int .i64 (learnP x 0))).drewN nl) := ⟨_, ⟨rfl⟩⟩
    have E2 := Aside0.mk (show SEncAt W2 B b g ⟨learnL lik ctx 0, low, pt, out⟩ from by
      rw [HW2.out]
      have := senc_lik E1.out HX2.out (show 0 < lik.length from by have := HCL.out; omega) ctx (learnP x 0)
      rw [HX.out] at this ⊢
      exact senc_drewN this _)
    have B2 := Aside0.mk (show Below B w W2 from by rw [HW2.out]; exact pw_below_drewN (B1.out.setCell hqB _) _)
    rw [← HW2.out]
    clear HW2 hb0 hb1 hb2 hf1 hf2 E1 B1 h0 hx hfx HX2 hql hqB
    obtain ⟨hb0, hb1, hb2, hf1, hf2, hbl2⟩ := senc_cells E2.out
    by_cases hsm : pt < 16777216
    · have HE := Aside0.mk (show putE ⟨lik, low, width, out⟩ ctx 0 = ⟨learnL lik ctx 0, low % 16777216 * 256, pt * 256, layL out (low / 16777216)⟩ from by
        have e1 : widthE ⟨lik, low, width, out⟩ ctx 0 = pt := by rw [HPT.out]; rfl
        have e2 : lowE ⟨lik, low, width, out⟩ ctx 0 = low := by first | rfl | (rw [HPT.out]; rfl)
        unfold putE
        rw [e1, e2, if_pos hsm])
      have hq2 : 16777216 ≤ pt * 256 := by omega
      have hq3 : pt * 256 ≤ 4294967296 := by omega
      have hq4 : 16777216 ≤ 256 * pt := by omega
      have hq5 : 256 * pt ≤ 4294967296 := by omega
      refine wp_loop_rounds 2 ?_
      rw [rounds_succ]
      go_wp2_with (go_at_call 103; (with_reducible refine (sLay_calls B b g _ _ _ out _ E2.out HBO.out (by omega) (by omega) (by have := HN.out; omega)).mono ?_); rintro e W3 ⟨rfl, e3, b3⟩; have E3 := Aside0.mk e3; have B3 := Aside0.mk (B2.out.trans b3); clear e3 b3; clear hb0 hb1 hb2 hf1 hf2; obtain ⟨hb0, hb1, hb2, hf1, hf2, hbl3⟩ := senc_cells E3.out)
      rw [rounds_succ]
      go_wp2
      go_end0
      exact ⟨rfl, by rw [HE.out, Int.mul_comm (pt) 256]; exact senc_width E3.out _, B3.out.setCell HP.out _⟩
    · have HE := Aside0.mk (show putE ⟨lik, low, width, out⟩ ctx 0 = ⟨learnL lik ctx 0, low, pt, out⟩ from by
        have e1 : widthE ⟨lik, low, width, out⟩ ctx 0 = pt := by rw [HPT.out]; rfl
        have e2 : lowE ⟨lik, low, width, out⟩ ctx 0 = low := by first | rfl | (rw [HPT.out]; rfl)
        unfold putE
        rw [e1, e2, if_neg hsm])
      have hq2 : 16777216 ≤ pt := by omega
      refine wp_loop_rounds 1 ?_
      rw [rounds_succ]
      go_wp2
      go_end0
      exact ⟨rfl, by rw [HE.out]; exact E2.out, B2.out⟩
  · go_enter Try.func67, Try.ntmps67
    go_wp2
    go_quiet (fail)
    go_wp2_with fail
    obtain ⟨W1, HW1⟩ : ∃ W1, Aside0 (W1 = ((w.drewN nq).setCell ⟨b, 1, none⟩ (.int .i64 (low + pt))).setCell ⟨b, 2, none⟩ (.int .i64 (width - pt))) := ⟨_, ⟨rfl⟩⟩
    have E1 := Aside0.mk (show SEncAt W1 B b g ⟨lik, (low + pt), (width - pt), out⟩ from by rw [HW1.out]; exact senc_width (senc_low (senc_drewN HE0.out _) _) _)
    have B1 := Aside0.mk (show Below B w W1 from by rw [HW1.out]; exact ((pw_below_drewN (Below.refl B w) _).setCell HP.out _).setCell HP.out _)
    rw [← HW1.out]
    clear HW1 hb1 hb2 hf1 hf2 hb0 hx hfx h0
    obtain ⟨hb0, hb1, hb2, hf1, hf2, hbl1⟩ := senc_cells E1.out
    obtain ⟨q1, c1, h0, hx, hfx, hql, hqB⟩ := slik_cell E1.out.1 ctx HCL.out
    have HX2 := Aside0.mk (show W1.cell? ⟨g, 0, none⟩ = some (.slice (some ⟨q1, 0, none⟩) lik.length c1) from h0)
    replace hx : W1.cell? ⟨q1, ctx, none⟩ = some (.int .i64 (rd lik (ctx : Int))) := hx
    rw [← HX.out] at hx
    refine (sLearn_calls g q1 c1 lik.length ctx x 1 _ h0 hx hfx hr0 hr1 HCL.out).mono ?_
    rintro e w' ⟨rfl, ⟨nl, rfl⟩⟩
    go_wp2
    obtain ⟨W2, HW2⟩ : ∃ W2, Aside0 (W2 = (W1.setCell ⟨q1, ctx, none⟩ (.int .i64 (learnP x 1))).drewN nl) := ⟨_, ⟨rfl⟩⟩
    have E2 := Aside0.mk (show SEncAt W2 B b g ⟨learnL lik ctx 1, (low + pt), (width - pt), out⟩ from by
      rw [HW2.out]
      have := senc_lik E1.out HX2.out (show 0 < lik.length from by have := HCL.out; omega) ctx (learnP x 1)
      rw [HX.out] at this ⊢
      exact senc_drewN this _)
    have B2 := Aside0.mk (show Below B w W2 from by rw [HW2.out]; exact pw_below_drewN (B1.out.setCell hqB _) _)
    rw [← HW2.out]
    clear HW2 hb0 hb1 hb2 hf1 hf2 E1 B1 h0 hx hfx HX2 hql hqB
    obtain ⟨hb0, hb1, hb2, hf1, hf2, hbl2⟩ := senc_cells E2.out
    by_cases hsm : (width - pt) < 16777216
    · have HE := Aside0.mk (show putE ⟨lik, low, width, out⟩ ctx 1 = ⟨learnL lik ctx 1, (low + pt) % 16777216 * 256, (width - pt) * 256, layL out ((low + pt) / 16777216)⟩ from by
        have e1 : widthE ⟨lik, low, width, out⟩ ctx 1 = (width - pt) := by rw [HPT.out]; rfl
        have e2 : lowE ⟨lik, low, width, out⟩ ctx 1 = (low + pt) := by first | rfl | (rw [HPT.out]; rfl)
        unfold putE
        rw [e1, e2, if_pos hsm])
      have hq2 : 16777216 ≤ (width - pt) * 256 := by omega
      have hq3 : (width - pt) * 256 ≤ 4294967296 := by omega
      have hq4 : 16777216 ≤ 256 * (width - pt) := by omega
      have hq5 : 256 * (width - pt) ≤ 4294967296 := by omega
      refine wp_loop_rounds 2 ?_
      rw [rounds_succ]
      go_wp2_with (go_at_call 103; (with_reducible refine (sLay_calls B b g _ _ _ out _ E2.out HBO.out (by omega) (by omega) (by have := HN.out; omega)).mono ?_); rintro e W3 ⟨rfl, e3, b3⟩; have E3 := Aside0.mk e3; have B3 := Aside0.mk (B2.out.trans b3); clear e3 b3; clear hb0 hb1 hb2 hf1 hf2; obtain ⟨hb0, hb1, hb2, hf1, hf2, hbl3⟩ := senc_cells E3.out)
      rw [rounds_succ]
      go_wp2
      go_end0
      exact ⟨rfl, by rw [HE.out, Int.mul_comm ((width - pt)) 256]; exact senc_width E3.out _, B3.out.setCell HP.out _⟩
    · have HE := Aside0.mk (show putE ⟨lik, low, width, out⟩ ctx 1 = ⟨learnL lik ctx 1, (low + pt), (width - pt), out⟩ from by
        have e1 : widthE ⟨lik, low, width, out⟩ ctx 1 = (width - pt) := by rw [HPT.out]; rfl
        have e2 : lowE ⟨lik, low, width, out⟩ ctx 1 = (low + pt) := by first | rfl | (rw [HPT.out]; rfl)
        unfold putE
        rw [e1, e2, if_neg hsm])
      have hq2 : 16777216 ≤ (width - pt) := by omega
      refine wp_loop_rounds 1 ?_
      rw [rounds_succ]
      go_wp2
      go_end0
      exact ⟨rfl, by rw [HE.out]; exact E2.out, B2.out⟩

/-! ### spec_l09New: function 101 (by hand) -/
set_option maxHeartbeats 4000000 in
set_option maxRecDepth 100000 in
theorem sNew_calls (w : World) : Calls Try.prog 101 #[] w fun e w' => ∃ g, e = .returned (.pointer (some ⟨g, 0, none⟩)) ∧ SLikAt w' w.heap.size g likL ∧ Below w.heap.size w w' := by
  have HB := Aside0.mk (below_alloc (Below.refl w.heap.size w) (.cells #[.slice none 0 0] 110))
  have HG := Aside0.mk (blk_new w (.cells #[.slice none 0 0] 110))
  go_enter Try.func101, Try.ntmps101
  go_wp2
  go_loopg [2] 400 (fun kq v2 w' => ∃ (k : Nat) (v : Value), v2 = .int .i64 (k : Int) ∧ Aside0 (k + kq = 400) ∧ Aside0 (w'.heap[w.heap.size]? = some (.cells #[v] 110 (0, 0))) ∧ Aside0 (Kd.R (Kd.int .i64) 3 w' w.heap.size (fun _ => True) v (List.replicate k 2048)) ∧ Aside0 (Below w.heap.size w w'))
  case atStart => exact ⟨0, _, rfl, ⟨rfl⟩, HG, ⟨Kd.R_nil _ _ _ _ _⟩, HB⟩
  case round =>
    clear HG HB
    obtain ⟨k, v, rfl, HK, HG, HO, HB⟩ := hrel
    by_cases hk : k < 400
    · have hk2 : (k : Int) < 400 := by omega
      have HS := Aside0.mk (show w.heap.size ≤ wr.heap.size from HB.out.size)
      have hc0 : wr.cell? ⟨w.heap.size, 0, none⟩ = some v := (blk_cell HG.out 0).trans rfl
      have hf0 := blk_frozen HG.out 0
      go_wp2_with (first
        | ((with_reducible refine gate_builtin (b := .append) (xs := #[.tmp 13, .tmp 14]) rfl ?_); at_builtin; refine Kd.R_append (Kd.int .i64) (w0 := w) w.heap.size rfl (.tmp 13) (.tmp 14) 34 3 (.int .i64 0) 8 rfl Try.underlying34 info3 rfl (by decide) (by omega) v (List.replicate k 2048) 2048 [.int .i64 2048] (fun _ => True) (fun _ => False) rfl rfl ?aP (fun _ hk => hk.elim) ?aF ?aO ?aB ?aS ?aL ?_; (case aP => exact rfl); (case aF => exact (fun _ _ => trivial)); (case aO => exact HO.out); (case aB => exact HB.out); (case aS => exact HS.out); (case aL => rw [List.length_replicate]; omega); intro v1 w1 ho hb hg hat; obtain ⟨g1, c1, rfl, -⟩ := Kd.R_form ho (by simp); have G1 := blk_grown HG.out hg (Kd.R_ne HO.out HG.out (by decide)); have k3 : w1.cell? ⟨w.heap.size, 0, none⟩ = some v := (blk_cell G1 0).trans rfl; have f3 := blk_frozen G1 0; have HG1 := Aside0.mk (show (w1.setCell ⟨w.heap.size, 0, none⟩ _).heap[w.heap.size]? = some (.cells #[.slice (some ⟨g1, 0, none⟩) (List.replicate k (2048 : Int) ++ [2048]).length c1] 110 (0, 0)) from by rw [blk_set G1 0]; rfl); have HO1 := Aside0.mk (Kd.R_set ho G1 (by decide) 0 (.slice (some ⟨g1, 0, none⟩) (List.replicate k (2048 : Int) ++ [2048]).length c1)); have HB1 := Aside0.mk (show Below w.heap.size w (w1.setCell ⟨w.heap.size, 0, none⟩ _) from hb.setCell (Nat.le_refl _) (.slice (some ⟨g1, 0, none⟩) (List.replicate k (2048 : Int) ++ [2048]).length c1)); rw [show (List.replicate k (2048 : Int) ++ [2048]) = List.replicate (k + 1) 2048 from (List.replicate_succ' (n := k)).symm, List.length_replicate] at HG1 HO1 HB1; clear hb hg hat ho G1))
      go_roundg (400 - (k + 1))
      case measure => have := HK.out; omega
      case rel =>
        exact ⟨k + 1, .slice (some ⟨g1, 0, none⟩) (k + 1) c1, by first | rfl | go_num | simp, ⟨by have := HK.out; omega⟩, HG1, HO1, HB1⟩
    · have hk2 : ¬ (k : Int) < 400 := by omega
      have e := HK.out
      obtain rfl : k = 400 := by omega
      clear e
      go_wp2
      go_ret
      exact ⟨_, rfl, ⟨Nat.le_refl _, v, HG.out, HO.out⟩, HB.out⟩

/-! ### spec_l09Writer: function 66 (by hand) -/
set_option maxHeartbeats 4000000 in
set_option maxRecDepth 100000 in
theorem sWriter_calls (w : World) : Calls Try.prog 66 #[] w fun e w' => ∃ b g, e = .returned (.pointer (some ⟨b, 0, none⟩)) ∧ SEncAt w' w.heap.size b g startE ∧ Below w.heap.size w w' := by
  go_enter Try.func66, Try.ntmps66
  go_wp2_with (go_at_call 101; (with_reducible refine (sNew_calls _).mono ?_); rintro e w1 ⟨g, rfl, hl, hb⟩; have HL := Aside0.mk hl; have HB := Aside0.mk hb; clear hl hb)
  go_ret
  obtain ⟨hB, v, G, hR⟩ := HL.out
  have hb := below_alloc (Below.refl w1.heap.size w1) (.cells #[.pointer (some ⟨g, 0, none⟩), .int .i64 0, .int .i64 4294967295, .slice none 0 0] 108)
  exact ⟨_, g, rfl, ⟨⟨hB, v, (hb.block g (blk_lt G)).trans G, Kd.R_below hR hb⟩, HB.out.size, _, blk_new w1 _, Kd.R_nil _ _ _ _ _⟩, below_alloc HB.out _⟩

/-! ### spec_l09Out_end: function 68 (by hand) -/
theorem end_lays (out : List Int) (low : Int) (h : 0 ≤ low) : layL (layL (layL (layL out (low / 16777216)) (low % 16777216 * 256 / 16777216)) (low % 16777216 * 256 % 16777216 * 256 / 16777216)) (low % 16777216 * 256 % 16777216 * 256 % 16777216 * 256 / 16777216) =
    layL (layL (layL (layL out (low / 16777216)) (low / 65536 % 256)) (low / 256 % 256)) (low % 256) := by
  congr 1
  · congr 1
    · congr 1
      omega
    · omega
  · omega
set_option maxHeartbeats 4000000 in
set_option maxRecDepth 100000 in
theorem sEnd_calls (B b g : Nat) (lik : List Int) (low width : Int) (out : List Int) (w : World) (h : SEncAt w B b g ⟨lik, low, width, out⟩) (ho : BytesOk out) (h0 : 0 ≤ low) (h1 : low < 8589934592) (hl : out.length ≤ 1000000) :
    Calls Try.prog 68 #[.pointer (some ⟨b, 0, none⟩)] w fun e w' => ∃ v, e = .returned v ∧ Kd.R (Kd.int .u8) 5 w' B (fun _ => True) v (endE ⟨lik, low, width, out⟩) ∧ Below B w w' := by
  have HE0 := Aside0.mk h
  have HEND := Aside0.mk (show endE ⟨lik, low, width, out⟩ = _ from (end_lays out low h0).symm)
  obtain ⟨l1, HL1⟩ : ∃ x, Aside0 (x = low % 16777216 * 256) := ⟨_, ⟨rfl⟩⟩
  obtain ⟨l2, HL2⟩ : ∃ x, Aside0 (x = l1 % 16777216 * 256) := ⟨_, ⟨rfl⟩⟩
  obtain ⟨l3, HL3⟩ : ∃ x, Aside0 (x = l2 % 16777216 * 256) := ⟨_, ⟨rfl⟩⟩
  have r0 := Aside0.mk (show 0 ≤ low ∧ low < 8589934592 from ⟨h0, h1⟩)
  have r1 := Aside0.mk (show 0 ≤ l1 ∧ l1 < 8589934592 from by have := HL1.out; omega)
  have r2 := Aside0.mk (show 0 ≤ l2 ∧ l2 < 8589934592 from by have := HL2.out; omega)
  have r3 := Aside0.mk (show 0 ≤ l3 ∧ l3 < 8589934592 from by have := HL3.out; omega)
  have K0 := Aside0.mk (show BytesOk out ∧ out.length ≤ 1000000 from ⟨ho, hl⟩)
  obtain ⟨o1, HO1⟩ : ∃ o, Aside0 (o = layL out (low / 16777216)) := ⟨_, ⟨rfl⟩⟩
  have K1 := Aside0.mk (show BytesOk o1 ∧ o1.length ≤ 1000001 from by rw [HO1.out]; exact ⟨layL_ok ho _, by rw [layL_length]; omega⟩)
  obtain ⟨o2, HO2⟩ : ∃ o, Aside0 (o = layL o1 (l1 / 16777216)) := ⟨_, ⟨rfl⟩⟩
  have K2 := Aside0.mk (show BytesOk o2 ∧ o2.length ≤ 1000002 from by rw [HO2.out]; exact ⟨layL_ok K1.out.1 _, by rw [layL_length]; have := K1.out.2; omega⟩)
  obtain ⟨o3, HO3⟩ : ∃ o, Aside0 (o = layL o2 (l2 / 16777216)) := ⟨_, ⟨rfl⟩⟩
  have K3 := Aside0.mk (show BytesOk o3 ∧ o3.length ≤ 1000003 from by rw [HO3.out]; exact ⟨layL_ok K2.out.1 _, by rw [layL_length]; have := K2.out.2; omega⟩)
  have HFIN := Aside0.mk (show endE ⟨lik, low, width, out⟩ = layL o3 (l3 / 16777216) from by rw [HEND.out, ← HL1.out, ← HL2.out, ← HL3.out, ← HO1.out, ← HO2.out, ← HO3.out])
  rw [HFIN.out]
  clear HEND HFIN h ho h0 h1 hl
  go_enter Try.func68, Try.ntmps68
  go_wp2
  refine wp_loop_rounds 5 ?_
  rw [rounds_succ]
  go_wp2_with (go_at_call 103; (with_reducible refine (sLay_calls B b g lik low width out _ HE0.out K0.out.1 r0.out.1 r0.out.2 (Nat.le_trans K0.out.2 (by decide))).mono ?_); rintro e W1 ⟨rfl, e1, b1⟩; rw [← HO1.out, ← HL1.out] at e1; have HE1 := Aside0.mk e1; have HB1 := Aside0.mk b1; clear e1 b1)
  rw [rounds_succ]
  go_wp2_with (go_at_call 103; (with_reducible refine (sLay_calls B b g lik l1 width o1 _ HE1.out K1.out.1 r1.out.1 r1.out.2 (Nat.le_trans K1.out.2 (by decide))).mono ?_); rintro e W2 ⟨rfl, e1, b1⟩; rw [← HO2.out, ← HL2.out] at e1; have HE2 := Aside0.mk e1; have HB2 := Aside0.mk (HB1.out.trans b1); clear e1 b1)
  rw [rounds_succ]
  go_wp2_with (go_at_call 103; (with_reducible refine (sLay_calls B b g lik l2 width o2 _ HE2.out K2.out.1 r2.out.1 r2.out.2 (Nat.le_trans K2.out.2 (by decide))).mono ?_); rintro e W3 ⟨rfl, e1, b1⟩; rw [← HO3.out, ← HL3.out] at e1; have HE3 := Aside0.mk e1; have HB3 := Aside0.mk (HB2.out.trans b1); clear e1 b1)
  rw [rounds_succ]
  go_wp2_with (go_at_call 103; (with_reducible refine (sLay_calls B b g lik l3 width o3 _ HE3.out K3.out.1 r3.out.1 r3.out.2 (Nat.le_trans K3.out.2 (by decide))).mono ?_); rintro e W4 ⟨rfl, e1, b1⟩; have HE4 := Aside0.mk e1; have HB4 := Aside0.mk (HB3.out.trans b1); clear e1 b1; obtain ⟨L6, P6, v6, G6, R6⟩ := HE4.out; have hc3 : W4.cell? ⟨b, 3, none⟩ = some v6 := (blk_cell G6 3).trans rfl; have HR6 := Aside0.mk R6; clear L6 P6 G6 R6)
  rw [rounds_succ]
  go_wp2
  go_ret
  exact ⟨_, rfl, HR6.out, HB4.out⟩

/-! ### spec_EncodeBins: function 24 (by hand) -/
theorem between_calls (a b c : Int) (w : World) : Calls Try.prog 58 #[.int .i64 a, .int .i64 b, .int .i64 c] w fun e w' => e = .returned (.bool (inR a b c)) ∧ Drawn0 w w' :=
  spec_l01Between.calls a b c _ w (between_f a b c)
theorem lit_bytes {w W : World} (hb : Below w.heap.size w W) (e : Nat) : Kd.R (Kd.int .u8) e (W.alloc (.cells #[] e)) w.heap.size (fun _ => True) (.slice (some ⟨W.heap.size, 0, none⟩) 0 0) [] := by
  have := World.ownsRow_lit (base := w.heap.size) (e := e) (size := 1) W #[] 0 hb.size (by decide) (by simp)
  exact ⟨fun _ _ => trivial, [], this, Reps.none _ _⟩
def spec_EncodeBins.f (l0 : List S31) : Option (List Int) := if l0.length ≤ 4611686018427387904 then some (encodeI l0) else none
set_option maxHeartbeats 4000000 in
set_option maxRecDepth 100000 in
theorem spec_EncodeBins.calls (A0 : Option Addr) (c0 : Nat) (l0 : List S31) (r : List Int) (w : World) (hr0 : Kd.C k31 w A0 l0.length l0) (hc0 : l0.length ≤ c0) (h : spec_EncodeBins.f l0 = some r) :
    Calls Try.prog 24 #[.slice A0 l0.length c0] w fun e w' => ∃ v0_ : Value, e = .returned (v0_) ∧ Kd.R (Kd.int .u8) 5 w' w.heap.size (fun _ => True) v0_ r ∧ Below w.heap.size w w' := by
  unfold spec_EncodeBins.f at h
  by_cases hl : l0.length ≤ 4611686018427387904
  · rw [if_pos hl] at h
    obtain rfl := Option.some.inj h
    clear h
    have HR := Aside0.mk hr0
    clear hr0 hc0
    by_cases h2 : l0.length ≤ 200000
    · have hu := Try.underlying31
      have HE := Aside0.mk (show encodeI l0 = if l0.all binB = true then encL (l0.map pairB) else [] from by unfold encodeI binsB; rw [decide_eq_true (by omega), Bool.and_true])
      have HN := Aside0.mk h2
      have d2 : (l0.length : Int) ≤ 200000 := by omega
      go_enter Try.func24, Try.ntmps24
      go_wp2
      go_loopg [3] l0.length (fun kq v3 w' => ∃ (k : Nat), v3 = .int .i64 (k : Int) ∧ Aside0 (k + kq = l0.length ∧ (l0.take k).all binB = true) ∧ Aside0 (Drawn0 w w'))
      case atStart => exact ⟨0, rfl, ⟨by omega, by simp⟩, ⟨Drawn0.refl _⟩⟩
      case round =>
        obtain ⟨k, rfl, HQ, HD⟩ := hrel
        by_cases hk : k < l0.length
        · have hki : (k : Int) < (l0.length : Int) := by omega
          obtain ⟨ad, rfl, hx0, hx1⟩ := at_T31 HR.out (k : Int) (by omega) hki
          rw [rdT_nat hk, Int.toNat_natCast] at hx0 hx1
          have y0 := pw_cell_below HD.out.below hx0
          have y1 := pw_cell_below HD.out.below hx1
          have HT := Aside0.mk (show (l0.take (k + 1)).all binB = binB l0[k] from by rw [List.take_succ_eq_append_getElem hk, List.all_append, HQ.out.2]; simp)
          have HAL := Aside0.mk (show l0.all binB = true → binB l0[k] = true from fun h => List.all_eq_true.1 h _ (List.getElem_mem hk))
          clear hx0 hx1
          by_cases c0 : inR l0[k].f0 0 399 = true
          · by_cases c1 : inR l0[k].f1 0 1 = true
            · have C0 := Aside0.mk c0
              have C1 := Aside0.mk c1
              clear c0 c1
              obtain ⟨x0, X0⟩ : ∃ x, Aside0 (x = l0[k].f0) := ⟨_, ⟨rfl⟩⟩
              obtain ⟨x1, X1⟩ : ∃ x, Aside0 (x = l0[k].f1) := ⟨_, ⟨rfl⟩⟩
              rw [← X0.out] at C0 y0
              rw [← X1.out] at C1 y1
              go_wp2_with (go_at_call 58; first | ((with_reducible refine (boolCall (between_calls x0 0 399 _) C0.out).mono ?_); rintro e w' ⟨rfl, ⟨nd, rfl⟩⟩) | ((with_reducible refine (boolCall (between_calls x1 0 1 _) C1.out).mono ?_); rintro e w' ⟨rfl, ⟨nd, rfl⟩⟩))
              go_roundg (l0.length - (k + 1))
              case measure => have := HQ.out.1; omega
              case rel =>
                refine ⟨k + 1, by first | rfl | go_num | simp, ⟨by have := HQ.out.1; omega, ?_⟩, ⟨by repeat (first | exact HD.out | apply Drawn0.step)⟩⟩
                rw [HT.out]
                unfold binB
                rw [← X0.out, ← X1.out, C0.out, C1.out]
                rfl
            · have C0 := Aside0.mk c0
              have C1 := Aside0.mk (Bool.eq_false_iff.2 c1)
              have HZ := Aside0.mk (show encodeI l0 = [] from by rw [HE.out, if_neg (fun h => by have h2 := HAL.out h; unfold binB at h2; rw [C1.out, Bool.and_false] at h2; exact absurd h2 (by simp))])
              clear c0 c1
              obtain ⟨x0, X0⟩ : ∃ x, Aside0 (x = l0[k].f0) := ⟨_, ⟨rfl⟩⟩
              obtain ⟨x1, X1⟩ : ∃ x, Aside0 (x = l0[k].f1) := ⟨_, ⟨rfl⟩⟩
              rw [← X0.out] at C0 y0
              rw [← X1.out] at C1 y1
              go_wp2_with (go_at_call 58; first | ((with_reducible refine (boolCall (between_calls x0 0 399 _) C0.out).mono ?_); rintro e w' ⟨rfl, ⟨nd, rfl⟩⟩) | ((with_reducible refine (boolCall (between_calls x1 0 1 _) C1.out).mono ?_); rintro e w' ⟨rfl, ⟨nd, rfl⟩⟩))
              go_ret
              exact ⟨_, rfl, by rw [HZ.out]; exact lit_bytes (by repeat (first | exact HD.out.below | apply pw_below_drewN | apply below_drew)) _, by repeat (first | exact HD.out.below | apply below_alloc | apply pw_below_drewN | apply below_drew1)⟩
          · have C0 := Aside0.mk (Bool.eq_false_iff.2 c0)
            have HZ := Aside0.mk (show encodeI l0 = [] from by rw [HE.out, if_neg (fun h => by have h2 := HAL.out h; unfold binB at h2; rw [C0.out, Bool.false_and] at h2; exact absurd h2 (by simp))])
            clear c0
            obtain ⟨x0, X0⟩ : ∃ x, Aside0 (x = l0[k].f0) := ⟨_, ⟨rfl⟩⟩
            rw [← X0.out] at C0 y0
            go_wp2_with (go_at_call 58; (with_reducible refine (boolCall (between_calls x0 0 399 _) C0.out).mono ?_); rintro e w' ⟨rfl, ⟨nd, rfl⟩⟩)
            go_ret
            exact ⟨_, rfl, by rw [HZ.out]; exact lit_bytes (by repeat (first | exact HD.out.below | apply pw_below_drewN | apply below_drew)) _, by repeat (first | exact HD.out.below | apply below_alloc | apply pw_below_drewN | apply below_drew1)⟩
        · have hki : ¬ (k : Int) < (l0.length : Int) := by omega
          have HALL := Aside0.mk (show l0.all binB = true from by have := HQ.out.2; rwa [List.take_of_length_le (by omega)] at this)
          have HZ := Aside0.mk (show encodeI l0 = encL (l0.map pairB) from by rw [HE.out, if_pos HALL.out])
          have HOK := Aside0.mk (binsB_ok HALL.out)
          obtain ⟨⟨nd0, rfl⟩⟩ := HD.out
          clear HD HQ HE
          go_wp2_with (go_at_call 66; (with_reducible refine (sWriter_calls _).mono ?_); rintro e W1 ⟨b, g, rfl, e1, b1⟩; have HW := Aside0.mk e1; have HB := Aside0.mk (show Below w.heap.size w W1 from below_step (pw_below_drewN (Below.refl w.heap.size w) nd0) b1); clear e1 b1)
          go_loopg [5] l0.length (fun kq v5 w' => ∃ (j : Nat), v5 = .int .i64 (j : Int) ∧ Aside0 (j + kq = l0.length) ∧ Aside0 (SEncAt w' w.heap.size b g (putsE startE ((l0.map pairB).take j))) ∧ Aside0 (Below w.heap.size w w'))
          case atStart => exact ⟨0, rfl, ⟨by omega⟩, HW, HB⟩
          case round =>
            clear HW HB
            obtain ⟨j, rfl, HQ, HEn, HB⟩ := hrel
            have hst := puts_state l0 HOK.out (Nat.le_trans HN.out (by decide)) j
            have HS1 := Aside0.mk hst.1
            have HS2 := Aside0.mk hst.2
            clear hst
            by_cases hj : j < l0.length
            · have hji : (j : Int) < (l0.length : Int) := by omega
              obtain ⟨ad, rfl, hx0, hx1⟩ := at_T31 HR.out (j : Int) (by omega) hji
              rw [rdT_nat hj, Int.toNat_natCast] at hx0 hx1
              have hbin := HOK.out (pairB l0[j]) (List.mem_map.2 ⟨_, List.getElem_mem hj, rfl⟩)
              obtain ⟨⟨hb0, hb1⟩, hb2⟩ := hbin
              replace hb0 : 0 ≤ l0[j].f0 := hb0
              replace hb1 : l0[j].f0 < 400 := hb1
              replace hb2 : l0[j].f1 = 0 ∨ l0[j].f1 = 1 := hb2
              obtain ⟨ctx, HC⟩ := Int.eq_ofNat_of_zero_le hb0
              have HT := Aside0.mk (show (l0.map pairB).take (j + 1) = (l0.map pairB).take j ++ [((ctx : Int), l0[j].f1)] from by rw [pair_take hj]; unfold pairB; rw [HC])
              rw [HC] at hx0 hb1
              have hc : ctx < 400 := by omega
              have HB2 := Aside0.mk hb2
              have y0 := pw_cell_below HB.out hx0
              have y1 := pw_cell_below HB.out hx1
              clear hb0 hb1 hb2 HC hx0 hx1
              obtain ⟨bit, HBI⟩ : ∃ bit, Aside0 (bit = l0[j].f1) := ⟨_, ⟨rfl⟩⟩
              rw [← HBI.out] at HT HB2 y1
              clear HBI
              go_wp2
              go_still_tail 11, (by kernel_rfl)
              change wpList _ _ _ _ _ wr.drew
              go_wp2_with (go_at_call 67; (with_reducible refine (sPut_calls w.heap.size b g _ _ _ _ ctx bit HB2.out _ (senc_drew HEn.out) HS1.out hc (Nat.le_trans HS2.out (by decide))).mono ?_); rintro e W3 ⟨rfl, e3, b3⟩; have HE3 := Aside0.mk e3; have HB3 := Aside0.mk ((below_drew HB.out).trans b3); clear e3 b3)
              go_roundg (l0.length - (j + 1))
              case measure => have := HQ.out; omega
              case rel =>
                refine ⟨j + 1, by first | rfl | go_num | simp, ⟨by have := HQ.out; omega⟩, ⟨?_⟩, HB3⟩
                rw [HT.out, puts_snoc]
                exact HE3.out
            · have hji : ¬ (j : Int) < (l0.length : Int) := by omega
              have HKE := Aside0.mk (show (l0.map pairB).take j = l0.map pairB from List.take_of_length_le (by rw [List.length_map]; omega))
              rw [HKE.out] at HEn HS1 HS2
              clear HKE
              have HZ2 := Aside0.mk (show encL (l0.map pairB) = endE (putsE startE (l0.map pairB)) from rfl)
              obtain ⟨s, HSS⟩ : ∃ s, Aside0 (s = putsE startE (l0.map pairB)) := ⟨_, ⟨rfl⟩⟩
              rw [← HSS.out] at HEn HS1 HS2 HZ2
              obtain ⟨lik, low, width, out⟩ := s
              have hlow0 : 0 ≤ low := HS1.out.low0
              have hlow1 : low < 8589934592 := by have h1 : low + width ≤ 8589934592 := HS1.out.sum; have h2 : 16777216 ≤ width := HS1.out.w0; omega
              go_wp2_with (go_at_call 68; (with_reducible refine (sEnd_calls w.heap.size b g lik low width out _ HEn.out HS1.out.out hlow0 hlow1 HS2.out).mono ?_); rintro e W4 ⟨v, rfl, hv, b4⟩; have HV := Aside0.mk hv; have HB4 := Aside0.mk (HB.out.trans b4); clear hv b4)
              go_ret
              exact ⟨_, rfl, by rw [HZ.out, HZ2.out]; exact HV.out, HB4.out⟩
    · have HZ := Aside0.mk (show encodeI l0 = [] from by unfold encodeI binsB; rw [decide_eq_false (by omega), Bool.and_false]; rfl)
      have d2 : ¬ (l0.length : Int) ≤ 200000 := by omega
      have d3 : (200000 : Int) < (l0.length : Int) := by omega
      have HD := Aside0.mk (Drawn0.refl w)
      rw [HZ.out]
      go_enter Try.func24, Try.ntmps24
      go_wp2
      go_ret
      exact ⟨_, rfl, lit_bytes (Below.refl _ _) _, below_alloc (Below.refl _ _) _⟩
  · rw [if_neg hl] at h
    cases h
theorem encodeI_length (l : List S31) : (encodeI l).length ≤ 1000000 := by
  unfold encodeI
  split
  · rename_i h
    have h1 := binsB_len h
    have h2 := encL_length (l.map pairB)
    rw [List.length_map] at h2
    omega
  · simp
theorem iEncode_f (l : List S31) (h : l.length ≤ 4611686018427387904) : impl_EncodeBins.f l = some (encodeI l) := by unfold impl_EncodeBins.f; rw [if_pos h]
theorem sEncode_f (l : List S31) (h : l.length ≤ 4611686018427387904) : spec_EncodeBins.f l = some (encodeI l) := by unfold spec_EncodeBins.f; rw [if_pos h]

/-! ### impl_allWithin: function 71 -/
def impl_allWithin.l0 : Nat → Int → Int → List Int → Int → Int → Option (Bool)
  | 0, _, _, _, _, _ => none
  | k + 1, x1, x2, x9, x10, x11 => if x11 < x10 then (if 0 ≤ x11 then (if x11 < (x9.length : Int) then ((impl_within.f (rd x9 x11) x1 x2).bind fun t106 => (if t106 = true then (impl_allWithin.l0 k x1 x2 x9 x10 (wrap64 (x11 + 1))) else (some false))) else (none)) else (none)) else (some true)
def impl_allWithin.f (k : Nat) (l0 : List Int) (a1 : Int) (a2 : Int) : Option (Bool) := impl_allWithin.l0 k a1 a2 l0 (l0.length : Int) 0
theorem impl_allWithin.mono_l : ∀ k, (∀ y0 y1 y2 y3 y4, LeO (impl_allWithin.l0 k y0 y1 y2 y3 y4) (impl_allWithin.l0 (k + 1) y0 y1 y2 y3 y4))
  | 0 => fun _ _ _ _ _ r h => by simp [impl_allWithin.l0] at h
  | k + 1 => by
    have ih0 := impl_allWithin.mono_l k
    · intro y0 y1 y2 y3 y4
      unfold impl_allWithin.l0
      repeat' first
      | (with_reducible exact ih0 _ _ _ _ _)
      | (with_reducible exact LeO.refl _)
      | (with_reducible exact LeO.none _)
      | (with_reducible refine LeO.ite ?_ ?_)
      | (with_reducible refine LeO.bind ?_ (fun _ => ?_))
      | exact ih0 _ _ _ _ _
      | exact LeO.none _
      | refine LeO.ite ?_ ?_
      | refine LeO.bind ?_ (fun _ => ?_)
theorem impl_allWithin.mono : ∀ a0 a1 a2 k, LeO (impl_allWithin.f k a0 a1 a2) (impl_allWithin.f (k + 1) a0 a1 a2) := by
  intro a0 a1 a2 k
  have ih0 := impl_allWithin.mono_l k
  unfold impl_allWithin.f
  repeat' first
      | (with_reducible exact ih0 _ _ _ _ _)
      | (with_reducible exact LeO.refl _)
      | (with_reducible exact LeO.none _)
      | (with_reducible refine LeO.ite ?_ ?_)
      | (with_reducible refine LeO.bind ?_ (fun _ => ?_))
      | exact ih0 _ _ _ _ _
      | exact LeO.none _
      | refine LeO.ite ?_ ?_
      | refine LeO.bind ?_ (fun _ => ?_)
set_option maxHeartbeats 8000000 in
set_option maxRecDepth 100000 in
theorem impl_allWithin.calls (k : Nat) (A0 : Option Addr) (c0 : Nat) (l0 : List Int) (a1 : Int) (a2 : Int) (r : Bool) (w : World) (hr0 : Kd.C (Kd.int .i64) w A0 l0.length l0) (hc0 : l0.length ≤ c0) (h : impl_allWithin.f k l0 a1 a2 = some r) :
    Calls Try.prog 71 #[.slice A0 l0.length c0, .int .i64 a1, .int .i64 a2] w fun e w' => e = .returned (.bool r) ∧ Drawn0 w w' := by
  have HR0 := Aside0.mk hr0
  have HC0 := Aside0.mk hc0
  clear hr0 hc0
  have H : (impl_allWithin.l0 k a1 a2 l0 (l0.length : Int) 0) = some r := h
  clear h
  have H' := Aside0.mk H
  clear H
  go_enter Try.func71, Try.ntmps71
  go_wp2
  go_loopg [11] k (fun kq v11 w' => ∃ (x11_1 : Int), v11 = .int .i64 x11_1 ∧ Aside0 (impl_allWithin.l0 kq a1 a2 l0 (l0.length : Int) x11_1 = some r) ∧ Aside0 (kq ≤ k) ∧ Drawn0 w w')
  case atStart => exact ⟨(0), (by first | rfl | (simp; done) | (simp [*]; done)), H', ⟨Nat.le_refl _⟩, by repeat (first | exact Drawn0.refl _ | apply Drawn0.step)⟩
  case round =>
    clear H'
    try clear p2
    obtain ⟨x11_1, rfl, HA, HK1, ⟨m1, rfl⟩⟩ := hrel
    cases gk with
    | zero => exact absurd HA.out (by simp [impl_allWithin.l0])
    | succ k1 =>
      have H := HA.out
      clear HA
      simp only [impl_allWithin.l0] at H
      by_cases c4 : x11_1 < (l0.length : Int)
      · rw [if_pos c4] at H
        have c4b0 : decide (x11_1 < (l0.length : Int)) = true := decide_eq_true c4
        clear c4
        by_cases c5 : 0 ≤ x11_1
        · rw [if_pos c5] at H
          have c5b0 : decide (0 ≤ x11_1) = true := decide_eq_true c5
          clear c5
          by_cases c6 : x11_1 < (l0.length : Int)
          · rw [if_pos c6] at H
            have c6b0 : decide (x11_1 < (l0.length : Int)) = true := decide_eq_true c6
            clear c6
            replace H := Option.bind_eq_some_iff.mp H
            obtain ⟨t106, A70, H⟩ := H
            replace H : (if t106 = true then (impl_allWithin.l0 k1 a1 a2 l0 (l0.length : Int) (wrap64 (x11_1 + 1))) else (some false)) = some r := H
            have A7 := Aside0.mk A70
            clear A70
            by_cases c8 : t106 = true
            · subst c8
              have H1 : (impl_allWithin.l0 k1 a1 a2 l0 (l0.length : Int) (wrap64 (x11_1 + 1))) = some r := by rw [if_pos rfl] at H; exact H
              clear H
              have H := H1
              clear H1
              have H' := Aside0.mk H
              clear H
              have p105 : 0 ≤ (x11_1 : Int) := of_decide_eq_true (by first | (with_reducible assumption) | assumption)
              have q105 : x11_1 < (l0.length : Int) := of_decide_eq_true (by first | (with_reducible assumption) | assumption)
              obtain ⟨ad105, e105, hx105_0⟩ := Kd.at_int HR0.out x11_1 p105 q105
              cases e105
              replace p105 := eq_true p105
              replace q105 := eq_true q105
              go_wp2_with (first | ((with_reducible refine gate_callee (f := 75) rfl ?_); refine goesL_ (some 18) rfl rfl Try.func75 (by kernel_rfl) rfl #[.int .i64 (rd l0 x11_1), .int .i64 a1, .int .i64 a2] rfl (by (try simp only [List.map_toArray, List.map_cons, List.map_nil]); first | done | rfl | (simp only [List.length_drop, List.length_take]; rfl)) ?_; (with_reducible refine (impl_within.calls (rd l0 x11_1) a1 a2 true _ A7.out).mono ?_); rintro e w' ⟨rfl, ⟨nd, rfl⟩⟩; refine ⟨_, rfl, ?_⟩))
              go_roundg k1
              case measure => have := HK1.out; omega
              case rel => exact ⟨(wrap64 (x11_1 + 1)), (by first | rfl | (simp; done) | (simp [*]; done)), H', ⟨by have := HK1.out; omega⟩, by repeat (first | exact Drawn0.refl _ | apply Drawn0.step)⟩
            · replace c8 := Bool.eq_false_iff.mpr c8
              subst c8
              have H1 : (some false) = some r := by rw [if_neg (show ¬ (false = true) by decide)] at H; exact H
              clear H
              have H := H1
              clear H1
              obtain rfl := Option.some.inj H
              have p105 : 0 ≤ (x11_1 : Int) := of_decide_eq_true (by first | (with_reducible assumption) | assumption)
              have q105 : x11_1 < (l0.length : Int) := of_decide_eq_true (by first | (with_reducible assumption) | assumption)
              obtain ⟨ad105, e105, hx105_0⟩ := Kd.at_int HR0.out x11_1 p105 q105
              cases e105
              replace p105 := eq_true p105
              replace q105 := eq_true q105
              go_wp2_with (first | ((with_reducible refine gate_callee (f := 75) rfl ?_); refine goesL_ (some 18) rfl rfl Try.func75 (by kernel_rfl) rfl #[.int .i64 (rd l0 x11_1), .int .i64 a1, .int .i64 a2] rfl (by (try simp only [List.map_toArray, List.map_cons, List.map_nil]); first | done | rfl | (simp only [List.length_drop, List.length_take]; rfl)) ?_; (with_reducible refine (impl_within.calls (rd l0 x11_1) a1 a2 false _ A7.out).mono ?_); rintro e w' ⟨rfl, ⟨nd, rfl⟩⟩; refine ⟨_, rfl, ?_⟩))
              go_ret
              exact ⟨by first | rfl | (simp; done) | (simp [*]; done), by repeat (first | exact Drawn0.refl _ | apply Drawn0.step)⟩
          · rw [if_neg c6] at H
            exact absurd H (by simp)
        · rw [if_neg c5] at H
          exact absurd H (by simp)
      · rw [if_neg c4] at H
        have c4b0 : decide (x11_1 < (l0.length : Int)) = false := decide_eq_false c4
        clear c4
        obtain rfl := Option.some.inj H
        go_wp2
        go_ret
        exact ⟨by first | rfl | (simp; done) | (simp [*]; done), by repeat (first | exact Drawn0.refl _ | apply Drawn0.step)⟩

theorem allWithin_l0 (lo up : Int) (l : List Int) (hl : l.length ≤ maxLen) : ∀ (d i : Nat), i + d = l.length → Ev (fun k => impl_allWithin.l0 k lo up l (l.length : Int) i) (allR (l.drop i) lo up) := by
  unfold maxLen at hl
  intro d
  induction d with
  | zero =>
    intro i hi
    refine Ev.step (fun k => by rw [impl_allWithin.l0]) ?_
    rw [List.drop_eq_nil_of_le (by omega)]
    exact evNeg (by omega) (Ev.now true)
  | succ d ih =>
    intro i hi
    have h1 : i < l.length := by omega
    refine Ev.step (fun k => by rw [impl_allWithin.l0]) ?_
    refine evPos (by omega) (evPos (by omega) (evPos (by omega) ?_))
    rw [drop_get h1, rd_nat h1, within_f]
    simp only [Option.bind_some, allR, List.all_cons]
    cases inR l[i] lo up with
    | false => exact evNeg (by simp) (Ev.now false)
    | true =>
      refine evPos rfl ?_
      rw [w64 (by omega) (by omega)]
      exact ih (i + 1) (by omega)
theorem allWithin_f (l : List Int) (lo hi : Int) (hl : l.length ≤ maxLen) : Ev (fun k => impl_allWithin.f k l lo hi) (allR l lo hi) := by
  have := allWithin_l0 lo hi l hl l.length 0 (by omega)
  simpa [impl_allWithin.f] using this

/-! ### impl_binReader_next: function 105 (by hand) -/
/-- The reader of bits, at block r; its likelihoods at block p; what it has still to read came in by w0. -/
def DecAt (w0 W : World) (r p : Nat) (bs : List Int) (s : Dec) : Prop :=
  LikAt W p s.lik ∧ (w0.heap.size ≤ p ∧ w0.heap.size ≤ r) ∧ ∃ A c, W.heap[r]? = some (.cells #[.pointer (some ⟨p, 0, none⟩), .int .i64 s.code, .int .i64 s.width, .slice A (bs.drop s.at_).length c] 114 (0, 0)) ∧
    (bs.drop s.at_).length ≤ c ∧ Kd.C (Kd.int .u8) w0 A (bs.drop s.at_).length (bs.drop s.at_)
theorem byteAt_drop (b : List Int) (n : Nat) : byteAt b n = rd (b.drop n) 0 := by
  unfold byteAt
  split
  · rename_i h
    rw [rd_nat h, show (0 : Int) = ((0 : Nat) : Int) from rfl, rd_nat (by rw [List.length_drop]; omega)]
    simp
  · rw [List.drop_eq_nil_of_le (by omega)]
    rfl
theorem dec_set {w0 W : World} {r p : Nat} {bs : List Int} {lik : List Int} {code width : Int} {n : Nat} (h : DecAt w0 W r p bs ⟨lik, code, width, n⟩) {A : Option Addr} {c : Nat} (m : Nat) (hl : (bs.drop m).length ≤ c) (hC : Kd.C (Kd.int .u8) w0 A (bs.drop m).length (bs.drop m)) :
    DecAt w0 (W.setCell ⟨r, 3, none⟩ (.slice A (bs.drop m).length c)) r p bs ⟨lik, code, width, m⟩ := by
  obtain ⟨L, hB, A0, c0, G, _, _⟩ := h
  refine ⟨blk_far L (blk_ne L G (by decide)) _, hB, A, c, ?_, hl, hC⟩
  rw [blk_set G 3]
  rfl
theorem keep_row {w w1 : World} {g p : Nat} (h : KeepBut w w1 g (some p)) (i : Nat) (u : Value) : KeepBut w (w1.setCell ⟨p, i, none⟩ u) g (some p) :=
  ⟨by rw [World.size_setCell]; exact h.1, fun k hk h1 h2 => (Below.heap_setCell w1 _ u k (fun e => h2 (by rw [e]))).trans (h.2 k hk h1 h2)⟩
theorem dec_drewN {w0 W : World} {r p : Nat} {bs : List Int} {s : Dec} (h : DecAt w0 W r p bs s) (n : Nat) : DecAt w0 (W.drewN n) r p bs s := h
theorem dec_drew {w0 W : World} {r p : Nat} {bs : List Int} {s : Dec} (h : DecAt w0 W r p bs s) : DecAt w0 W.drew r p bs s := h
theorem bytes_next {w0 : World} {A : Option Addr} {l : List Int} {c : Nat} (hC : Kd.C (Kd.int .u8) w0 A l.length l) (hl : l.length ≤ c) (h1 : 1 ≤ l.length) : Kd.C (Kd.int .u8) w0 (if c = 1 then A else A.map (·.add 1)) (l.drop 1).length (l.drop 1) := by
  have := ReadsInt.drop_ (readsInt_of.2 (Kd.reads_of_C (d := 0) hC)) 1 h1 hl
  rw [List.length_drop]
  exact Kd.C_of_reads (readsInt_of.1 this)
set_option maxHeartbeats 4000000 in
set_option maxRecDepth 100000 in
theorem iNext_calls (r p : Nat) (bs : List Int) (lik : List Int) (code width : Int) (n : Nat) (w0 W : World) (h : DecAt w0 W r p bs ⟨lik, code, width, n⟩) (hb : Below w0.heap.size w0 W) (hbs : BytesOk bs) :
    Calls Try.prog 105 #[.pointer (some ⟨r, 0, none⟩)] W fun e w' => e = .returned (.int .i64 (byteAt bs n)) ∧ DecAt w0 w' r p bs ⟨lik, code, width, n + 1⟩ ∧ Below w0.heap.size W w' ∧ KeepBut W w' r (some p) := by
  have HD := Aside0.mk h
  by_cases hn : bs.length ≤ n
  · have e0 : bs.drop n = [] := List.drop_eq_nil_of_le hn
    have e1 : bs.drop (n + 1) = [] := List.drop_eq_nil_of_le (by omega)
    have HE := Aside0.mk (show DecAt w0 W r p bs ⟨lik, code, width, n + 1⟩ from by
      have h2 := h
      unfold DecAt at h2 ⊢
      simp only [] at h2 ⊢
      rw [e0] at h2
      rw [e1]
      exact h2)
    obtain ⟨L, hP, A, c, G, hle, hC⟩ := h
    simp only [] at G
    rw [e0] at G
    have hc3 : W.cell? ⟨r, 3, none⟩ = some (.slice A 0 c) := (blk_cell G 3).trans rfl
    have HBY := Aside0.mk (show byteAt bs n = 0 from by unfold byteAt; rw [if_neg (by omega)])
    rw [HBY.out]
    clear HBY L hP G hb hle hC e0 e1 hn
    go_enter Try.func105, Try.ntmps105
    go_wp2
    go_ret
    exact ⟨rfl, HE.out, Below.refl _ _, KeepBut.refl _ _ _⟩
  · obtain ⟨L, hP, A, c, G, hle, hC⟩ := h
    have HP := Aside0.mk hP
    have HB := Aside0.mk hb
    have hc3 : W.cell? ⟨r, 3, none⟩ = some (.slice A (bs.drop n).length c) := (blk_cell G 3).trans rfl
    have hf3 := blk_frozen G 3
    have HBY := Aside0.mk (byteAt_drop bs n)
    rw [HBY.out]
    clear HBY L hP G hb
    have HN := Aside0.mk (show bs.drop (n + 1) = (bs.drop n).drop 1 from by rw [List.drop_drop])
    have HD1 := Aside0.mk (fun (A : Option Addr) (c : Nat) => dec_set (A := A) (c := c) HD.out (n + 1))
    rw [HN.out] at HD1
    have hbd : ∀ x ∈ bs.drop n, 0 ≤ x ∧ x ≤ 255 := fun x hx => hbs x (List.mem_of_mem_drop hx)
    have hne : bs.drop n ≠ [] := fun h => hn (List.drop_eq_nil_iff.1 h)
    generalize bs.drop n = l at hc3 hle hC HD1 hbd hne ⊢
    clear HN
    rcases l with _ | ⟨x, l⟩
    · exact absurd rfl hne
    · have hx0 := hbd x (by simp)
      obtain ⟨ad, e, hx⟩ := Kd.at_int hC 0 (by omega) (by simp)
      subst e
      replace hx : W.cell? ad = some (.int .u8 x) := pw_cell_below HB.out hx
      obtain ⟨hx0, hx1⟩ := hx0
      have HX := Aside0.mk (show rd (x :: l) 0 = x from rfl)
      rw [HX.out]
      have HC := Aside0.mk (bytes_next hC hle (by simp))
      have HL := Aside0.mk (show l.length + 1 ≤ c from hle)
      clear hC hle hbd hne hn
      by_cases hc1 : c = 1
      · subst hc1
        have HE := Aside0.mk (HD1.out (some ad) 0 (by show l.length ≤ 0; have := HL.out; omega) (by have := HC.out; rw [if_pos rfl] at this; exact this))
        go_enter Try.func105, Try.ntmps105
        go_wp2
        go_ret
        exact ⟨rfl, HE.out, (Below.refl _ _).setCell HP.out.2 _, (KeepBut.refl _ _ _).set_ _ _⟩
      · have hl1 : l.length + 1 ≤ c := HL.out
        have HE := Aside0.mk (HD1.out (some ⟨ad.block, ad.off + 1, none⟩) (c - 1) (by show l.length ≤ c - 1; have := HL.out; omega) (by
          have := HC.out
          rw [if_neg hc1] at this
          exact this))
        go_enter Try.func105, Try.ntmps105
        go_wp2
        go_ret
        exact ⟨rfl, HE.out, (Below.refl _ _).setCell HP.out.2 _, (KeepBut.refl _ _ _).set_ _ _⟩

end Go.Proofs.Ytdeheflbigggbaa.CD
