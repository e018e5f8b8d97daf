/- Functions that a law of this seat reaches: written by a program of this session (wip/xprint.py), and by hand. -/
import Derived.Test.YtdeheflbigggbaaCMx0
import Derived.Test.YtdeheflbigggbaaCMx2
import Derived.Test.YtdeheflbigggbaaCMx3
namespace Go.Proofs.Ytdeheflbigggbaa.CM
open Go.RowKit Go.Proofs.Ytdeheflbigggbaa.B Go.Proofs.YtdeheflbigggbaaW.PrintWords Go.Proofs.YtdeheflbigggbaaW.PrintLast Go.Proofs.YtdeheflbigggbaaW.PrintMore
attribute [local go_sem] max2_int min2_int max_two min_two max_three min_three max_four min_four   -- for this text's walks alone
set_option linter.unusedVariables false
set_option linter.unusedSimpArgs false

/-! ### impl_encoder_lay: function 100 (by hand) -/
/-- The writer of bits, at block b; its likelihoods at block p. -/
def EncCells (p : Nat) (low width : Int) (v : Value) : Array Value := #[.pointer (some ⟨p, 0, none⟩), .int .i64 low, .int .i64 width, v]
def EncAt (W : World) (B b p : Nat) (s : Enc) : Prop :=
  LikAt W p s.lik ∧ (B ≤ p ∧ B ≤ b) ∧ ∃ v, W.heap[b]? = some (.cells #[.pointer (some ⟨p, 0, none⟩), .int .i64 s.low, .int .i64 s.width, v] 102 (0, 0)) ∧ Kd.R (Kd.int .u8) 5 W B (fun _ => True) v s.out
theorem enc_put {W : World} {B b p : Nat} {lik : List Int} {low width : Int} {v v1 : Value} {out : List Int} (G : W.heap[b]? = some (.cells #[.pointer (some ⟨p, 0, none⟩), .int .i64 low, .int .i64 width, v] 102 (0, 0)))
    (L : LikAt W p lik) (hB : B ≤ p ∧ B ≤ b) (ho : Kd.R (Kd.int .u8) 5 W B (fun _ => True) v1 out) : EncAt (W.setCell ⟨b, 3, none⟩ v1) B b p ⟨lik, low, width, out⟩ := by
  refine ⟨blk_far L (blk_ne L G (by decide)) v1, hB, v1, ?_, Kd.R_set ho G (by decide) 3 v1⟩
  rw [blk_set G 3]
  rfl
theorem enc_low {W : World} {B b p : Nat} {s : Enc} (h : EncAt W B b p s) (x : Int) : EncAt (W.setCell ⟨b, 1, none⟩ (.int .i64 x)) B b p ⟨s.lik, x, s.width, s.out⟩ := by
  obtain ⟨L, hB, v, G, ho⟩ := h
  refine ⟨blk_far L (blk_ne L G (by decide)) _, hB, v, ?_, Kd.R_set ho G (by decide) 1 _⟩
  rw [blk_set G 1]
  rfl
theorem enc_width {W : World} {B b p : Nat} {s : Enc} (h : EncAt W B b p s) (x : Int) : EncAt (W.setCell ⟨b, 2, none⟩ (.int .i64 x)) B b p ⟨s.lik, s.low, x, s.out⟩ := by
  obtain ⟨L, hB, v, G, ho⟩ := h
  refine ⟨blk_far L (blk_ne L G (by decide)) _, hB, v, ?_, Kd.R_set ho G (by decide) 2 _⟩
  rw [blk_set G 2]
  rfl
theorem enc_drew {W : World} {B b p : Nat} {s : Enc} (h : EncAt W B b p s) : EncAt W.drew B b p s := h
theorem enc_drewN {W : World} {B b p : Nat} {s : Enc} (h : EncAt W B b p s) (n : Nat) : EncAt (W.drewN n) B b p s := h
theorem enc_lik {W : World} {B b p : Nat} {s : Enc} (h : EncAt W B b p s) (i : Nat) (x : Int) : EncAt (W.setCell ⟨p, i, none⟩ (.int .i64 x)) B b p ⟨s.lik.set i x, s.low, s.width, s.out⟩ := by
  obtain ⟨L, hB, v, G, ho⟩ := h
  exact ⟨lik_set L i x, hB, v, blk_far G (fun e => blk_ne L G (by decide) e.symm) _, Kd.R_set ho L (by decide) i _⟩
theorem enc_lt {W : World} {B b p : Nat} {s : Enc} (h : EncAt W B b p s) : B ≤ W.heap.size := by
  obtain ⟨L, hB, v, G, ho⟩ := h
  have := blk_lt G
  omega
set_option maxHeartbeats 4000000 in
set_option maxRecDepth 100000 in
theorem iLay_calls (B b p : Nat) (lik : List Int) (low width : Int) (out : List Int) (n : Int) (w : World) (h : EncAt w B b p ⟨lik, low, width, out⟩) (ho : BytesOk out) (h0 : 0 ≤ n) (h1 : n < 512) (hl : out.length ≤ 100000000) :
    Calls Try.prog 100 #[.pointer (some ⟨b, 0, none⟩), .int .i64 n] w fun e w' => e = .returned (.tuple #[]) ∧ EncAt w' B b p ⟨lik, low, width, layL out n⟩ ∧ Below B w w' := by
  have HS := Aside0.mk (enc_lt h)
  obtain ⟨L, hP, v, G, hR⟩ := h
  have HL := Aside0.mk L
  have HP := Aside0.mk hP
  have HG := Aside0.mk G
  have HO := Aside0.mk hR
  have HN := Aside0.mk hl
  have HB := Aside0.mk (Below.refl B w)
  have hc3 : w.cell? ⟨b, 3, none⟩ = some v := (blk_cell G 3).trans rfl
  have hf3 := blk_frozen G 3
  clear L hP G hR hl
  by_cases hn : 256 ≤ n
  · have HE := Aside0.mk (show layL out n = carryL out ++ [n % 256] from by unfold layL; rw [if_pos hn])
    rw [HE.out]
    clear HE
    obtain ⟨A, c, rfl, hle, hC⟩ := Kd.R_reads HO.out
    clear hle hC
    have hlen : out.length ≤ 100000000 := HN.out
    go_enter Try.func100, Try.ntmps100
    go_wp2
    go_loopg [4] out.length (fun kq v4 w' => ∃ (j : Nat) (i : Int), v4 = .int .i64 i ∧ Aside0 (i = (j : Int) - 1 ∧ j = kq ∧ j ≤ out.length ∧ Full out j) ∧ Aside0 (Kd.R (Kd.int .u8) 5 w' B (fun _ => True) (.slice A out.length c) (zeroed out j)) ∧ Aside0 (w'.heap[b]? = some (.cells #[.pointer (some ⟨p, 0, none⟩), .int .i64 low, .int .i64 width, .slice A out.length c] 102 (0, 0))) ∧ Aside0 (LikAt w' p lik) ∧ Aside0 (Below B w w'))
    case atStart => exact ⟨out.length, _, rfl, ⟨rfl, rfl, Nat.le_refl _, (full_all out).1⟩, ⟨by rw [(full_all out).2]; exact HO.out⟩, HG, HL, HB⟩
    case round =>
      clear HO HG HL HB hc3 hf3 HS
      obtain ⟨j, i, rfl, HJ, HO, HG, HL, HB⟩ := hrel
      obtain ⟨ji, jk, jl, jf⟩ := HJ.out
      have HS := Aside0.mk (show B ≤ wr.heap.size from by have := blk_lt HG.out; have := HP.out; omega)
      have hc3 : wr.cell? ⟨b, 3, none⟩ = some (.slice A out.length c) := (blk_cell HG.out 3).trans rfl
      have hf3 := blk_frozen HG.out 3
      have JF := Aside0.mk jf
      have JI := Aside0.mk ji
      clear HJ jf
      cases j with
      | zero =>
        have hi : i < 0 := by omega
        have HQ := Aside0.mk (full_none JF.out)
        clear ji jk
        have HN := Aside0.mk (show (zeroed out 0).length ≤ 100000000 from by rw [zeroed_length (by omega)]; exact hlen)
        go_wp2_with (first
              | ((with_reducible refine gate_builtin (b := .append) (xs := #[.tmp 38, .tmp 41]) rfl ?_); at_builtin; refine Kd.R_append (Kd.int .u8) (w0 := w) B rfl (.tmp 38) (.tmp 41) 27 5 (.int .u8 0) 1 rfl Try.underlying27 info5 rfl (by decide) (by omega) (.slice A out.length c) (zeroed out 0) (n % 256) [.int .u8 (n % 256)] (fun _ => True) (fun _ => False) rfl rfl ?aP (fun _ hk => hk.elim) ?aF ?aO ?aB ?aS ?aL ?_; (case aP => exact rfl); (case aF => exact (fun _ _ => trivial)); (case aO => exact HO.out); (case aB => exact HB.out); (case aS => exact HS.out); (case aL => have := HN.out; omega); intro v1 w1 ho hb hg hat; obtain ⟨g1, c1, rfl, -⟩ := Kd.R_form ho (by simp); have G1 := blk_grown HG.out hg (Kd.R_ne HO.out HG.out (by decide)); have L1 := blk_grown HL.out hg (Kd.R_ne HO.out HL.out (by decide)); have k3 : w1.cell? ⟨b, 3, none⟩ = some (.slice A out.length c) := (blk_cell G1 3).trans rfl; have f3 := blk_frozen G1 3; have HF := Aside0.mk (enc_put G1 L1 HP.out ho); have HB1 := Aside0.mk (show Below B w (w1.setCell ⟨b, 3, none⟩ _) from hb.setCell HP.out.2 (.slice (some ⟨g1, 0, none⟩) (zeroed out 0 ++ [n % 256]).length c1)); clear hb hg hat ho G1 L1))
        go_end0
        exact ⟨rfl, by rw [HQ.out]; have := HF.out; simp only [List.length_append, List.length_cons, List.length_nil, Nat.zero_add] at this; exact this, by have := HB1.out; simp only [List.length_append, List.length_cons, List.length_nil, Nat.zero_add] at this; exact this⟩
      | succ j =>
        have hi : 0 ≤ i := by omega
        have hi2 : i < (out.length : Int) := by omega
        have HI := Aside0.mk (show i.toNat = j from by omega)
        have JK := Aside0.mk jk
        clear ji jk
        obtain ⟨g, c', e, hg0, hg1, cells, hcells⟩ := Kd.R_form HO.out (by rw [zeroed_length jl]; omega)
        injection e with e1 e2 e3
        subst e1
        clear e2 e3
        have GB := Aside0.mk hg0
        have GT := Aside0.mk hcells
        clear hg0 hg1 hcells
        obtain ⟨hx, hfx⟩ := Kd.R_celln 0 HO.out i hi hi2
        have HX := Aside0.mk (show rdOf 0 (zeroed out (j + 1)) i = rd out (j : Int) from by have e := JI.out; rw [show i = (j : Int) from by omega]; exact zeroed_rd jl)
        rw [HX.out] at hx
        clear HX
        have hr := rd_range0 (l := out) (lo := 0) (hi := 255) ho (by omega) (by omega) (j : Int)
        have JX := Aside0.mk (show ∀ y, y = rd out (j : Int) → y = rd out (j : Int) from fun _ h => h)
        by_cases h255 : rd out (j : Int) = 255
        · rw [h255] at hx
          have HPt := Aside0.mk (Kd.R_putg HO.out i 0).1
          have HFN := Aside0.mk (full_next jl JF.out h255)
          have hc4 : (wr.setCell ⟨g, i.toNat, none⟩ (.int .u8 0)).cell? ⟨b, 3, none⟩ = some (.slice (some ⟨g, 0, none⟩) out.length c) := (blk_cell (blk_far HG.out (blk_ne HG.out GT.out (by decide)) _) 3).trans rfl
          go_wp2
          go_roundg j
          case measure => have := JK.out; omega
          case rel =>
            refine ⟨j, _, rfl, ⟨by have := JI.out; omega, rfl, by omega, HFN.out.1⟩, ⟨?_⟩, ⟨blk_far HG.out (blk_ne HG.out GT.out (by decide)) _⟩, ⟨blk_far HL.out (blk_ne HL.out GT.out (by decide)) _⟩, ⟨HB.out.setCell GB.out _⟩⟩
            have e := HFN.out.2
            have := HPt.out
            rw [HI.out] at this ⊢
            rw [e] at this
            exact this
        · obtain ⟨y, HY⟩ : ∃ y, Aside0 (y = rd out (j : Int)) := ⟨_, ⟨rfl⟩⟩
          rw [← HY.out] at hx hr h255
          have hy0 : 0 ≤ y := hr.1
          have hy1 : y ≤ 254 := by omega
          have hy2 : (y + 1 != 0) = true := by simp; omega
          have HPt := Aside0.mk (Kd.R_putg HO.out i (y + 1)).1
          have HFS := Aside0.mk (show (zeroed out (j + 1)).set i.toNat (y + 1) = carryL out from by rw [HI.out, HY.out]; exact full_stop jl JF.out (by rw [← HY.out]; exact h255))
          have HG2 := Aside0.mk (blk_far HG.out (blk_ne HG.out GT.out (by decide)) (.int .u8 (y + 1)) (p := ⟨g, i.toNat, none⟩))
          have HL2 := Aside0.mk (show LikAt (wr.setCell ⟨g, i.toNat, none⟩ (.int .u8 (y + 1))) p lik from blk_far HL.out (blk_ne HL.out GT.out (by decide)) _)
          have HB2 := Aside0.mk (show Below B w (wr.setCell ⟨g, i.toNat, none⟩ (.int .u8 (y + 1))) from HB.out.setCell GB.out _)
          have HN := Aside0.mk (show ((zeroed out (j + 1)).set i.toNat (y + 1)).length ≤ 100000000 from by rw [List.length_set, zeroed_length jl]; exact hlen)
          have HS := Aside0.mk (show B ≤ (wr.setCell ⟨g, i.toNat, none⟩ (.int .u8 (y + 1))).heap.size from by rw [World.size_setCell]; exact HS.out)
          have hc4 : (wr.setCell ⟨g, i.toNat, none⟩ (.int .u8 (y + 1))).cell? ⟨b, 3, none⟩ = some (.slice (some ⟨g, 0, none⟩) out.length c) := (blk_cell HG2.out 3).trans rfl
          have hx4 : (wr.setCell ⟨g, i.toNat, none⟩ (.int .u8 (y + 1))).cell? ⟨g, i.toNat, none⟩ = some (.int .u8 (y + 1)) := by first | exact World.cell?_setCell_same _ _ _ hx | exact World.cell?_setCell_same' _ _ _ (by rw [hx]; rfl)
          obtain ⟨W, HW⟩ : ∃ W, Aside0 (W = wr.setCell ⟨g, i.toNat, none⟩ (.int .u8 (y + 1))) := ⟨_, ⟨rfl⟩⟩
          rw [← HW.out] at HPt HG2 HL2 HB2 HS hc4 hx4
          clear HO HG HL HB h255 hr
          have HO := HPt
          have HG := HG2
          have HL := HL2
          have HB := HB2
          clear HPt HG2 HL2 HB2
          go_wp2_with (first
            | ((with_reducible refine gate_store (t := 5) (p := 25) rfl ?_); refine store_event (t := 5) (p := 25) (v := ?vo_1) (w1 := (wr.setCell ⟨g, i.toNat, none⟩ (.int .u8 (y + 1)))) ?hg ?ho ?hn ?hr ?_; (case ho => rfl); (case hg => rfl); (case hn => rfl); (case hr => first | (go_simp; done) | (go_simp; rfl)); intro w11 hw; rw [← HW.out] at hw; subst hw)
            | ((with_reducible refine gate_builtin (b := .append) (xs := #[.tmp 38, .tmp 41]) rfl ?_); at_builtin; refine Kd.R_append (Kd.int .u8) (w0 := w) B rfl (.tmp 38) (.tmp 41) 27 5 (.int .u8 0) 1 rfl Try.underlying27 info5 rfl (by decide) (by omega) (.slice (some ⟨g, 0, none⟩) out.length c) ((zeroed out (j + 1)).set i.toNat (y + 1)) (n % 256) [.int .u8 (n % 256)] (fun _ => True) (fun _ => False) rfl rfl ?aP (fun _ hk => hk.elim) ?aF ?aO ?aB ?aS ?aL ?_; (case aP => exact rfl); (case aF => exact (fun _ _ => trivial)); (case aO => exact HO.out); (case aB => exact HB.out); (case aS => exact HS.out); (case aL => have := HN.out; omega); intro v1 w1 ho hb hg hat; obtain ⟨g1, c1, rfl, -⟩ := Kd.R_form ho (by simp); have G1 := blk_grown HG.out hg (Kd.R_ne HO.out HG.out (by decide)); have L1 := blk_grown HL.out hg (Kd.R_ne HO.out HL.out (by decide)); have k3 : w1.cell? ⟨b, 3, none⟩ = some (.slice (some ⟨g, 0, none⟩) out.length c) := (blk_cell G1 3).trans rfl; have f3 := blk_frozen G1 3; have HF := Aside0.mk (enc_put G1 L1 HP.out ho); have HB1 := Aside0.mk (show Below B w (w1.setCell ⟨b, 3, none⟩ _) from hb.setCell HP.out.2 (.slice (some ⟨g1, 0, none⟩) ((zeroed out (j + 1)).set i.toNat (y + 1) ++ [n % 256]).length c1)); clear hb hg hat ho G1 L1))
          go_end0
          exact ⟨rfl, by rw [← HFS.out]; have := HF.out; simp only [List.length_append, List.length_set, List.length_cons, List.length_nil, Nat.zero_add] at this; exact this, by have := HB1.out; simp only [List.length_append, List.length_set, List.length_cons, List.length_nil, Nat.zero_add] at this; exact this⟩
  · have hn' : n ≤ 255 := by omega
    have HE := Aside0.mk (show layL out n = out ++ [n] from by unfold layL; rw [if_neg hn, Int.emod_eq_of_lt (by omega) (by omega)])
    rw [HE.out]
    clear HE hn
    go_enter Try.func100, Try.ntmps100
    go_wp2_with (first
      | ((with_reducible refine gate_builtin (b := .append) (xs := #[.tmp 38, .tmp 41]) rfl ?_); at_builtin; refine Kd.R_append (Kd.int .u8) (w0 := w) B rfl (.tmp 38) (.tmp 41) 27 5 (.int .u8 0) 1 rfl Try.underlying27 info5 rfl (by decide) (by omega) v out n [.int .u8 (n)] (fun _ => True) (fun _ => False) rfl rfl ?aP (fun _ hk => hk.elim) ?aF ?aO ?aB ?aS ?aL ?_; (case aP => exact rfl); (case aF => exact (fun _ _ => trivial)); (case aO => exact HO.out); (case aB => exact HB.out); (case aS => exact HS.out); (case aL => have := HN.out; omega); intro v1 w1 ho hb hg hat; obtain ⟨g1, c1, rfl, -⟩ := Kd.R_form ho (by simp); have G1 := blk_grown HG.out hg (Kd.R_ne HO.out HG.out (by decide)); have L1 := blk_grown HL.out hg (Kd.R_ne HO.out HL.out (by decide)); have k3 : w1.cell? ⟨b, 3, none⟩ = some v := (blk_cell G1 3).trans rfl; have f3 := blk_frozen G1 3; have HF := Aside0.mk (enc_put G1 L1 HP.out ho); have HB1 := Aside0.mk (show Below B w (w1.setCell ⟨b, 3, none⟩ _) from hb.setCell HP.out.2 (.slice (some ⟨g1, 0, none⟩) (out ++ [n]).length c1)); clear hb hg hat ho G1 L1))
    go_end0
    exact ⟨rfl, by have := HF.out; simp only [List.length_append, List.length_cons, List.length_nil, Nat.zero_add] at this; exact this, by have := HB1.out; simp only [List.length_append, List.length_cons, List.length_nil, Nat.zero_add] at this; exact this⟩

/-! ### impl_encoder_put: function 99 (by hand) -/
theorem enc_alloc {W : World} {B b p : Nat} {s : Enc} (h : EncAt W B b p s) (o : Obj) : EncAt (W.alloc o) B b p s := by
  obtain ⟨L, hB, v, G, ho⟩ := h
  have hb := below_alloc (Below.refl W.heap.size W) o
  exact ⟨(hb.block p (blk_lt L)).trans L, hB, v, (hb.block b (blk_lt G)).trans G, Kd.R_below ho hb⟩
theorem enc_cells {W : World} {B b p : Nat} {lik : List Int} {low width : Int} {out : List Int} (h : EncAt W B b p ⟨lik, low, width, out⟩) :
    W.cell? ⟨b, 0, none⟩ = some (.pointer (some ⟨p, 0, none⟩)) ∧ W.cell? ⟨b, 1, none⟩ = some (.int .i64 low) ∧ W.cell? ⟨b, 2, none⟩ = some (.int .i64 width) ∧ W.frozen? ⟨b, 1, none⟩ = false ∧ W.frozen? ⟨b, 2, none⟩ = false ∧ b < W.heap.size ∧ p < W.heap.size ∧ b ≠ p := by
  obtain ⟨L, hB, v, G, ho⟩ := h
  exact ⟨(blk_cell G 0).trans rfl, (blk_cell G 1).trans rfl, (blk_cell G 2).trans rfl, blk_frozen G 1, blk_frozen G 2, blk_lt G, blk_lt L, blk_ne G L (by decide)⟩
theorem lik_drew {W : World} {p : Nat} {lik : List Int} (h : LikAt W p lik) : LikAt W.drew p lik := h
theorem enc_lik0 {W : World} {B b p : Nat} {s : Enc} (h : EncAt W B b p s) : LikAt W p s.lik := h.1
set_option maxHeartbeats 4000000 in
set_option maxRecDepth 100000 in
theorem iPut_calls (B b p : Nat) (lik : List Int) (low width : Int) (out : List Int) (ctx : Nat) (bit : Int) (hbit : bit = 0 ∨ bit = 1) (w : World) (h : EncAt w B b p ⟨lik, low, width, out⟩) (hs : EncOk ⟨lik, low, width, out⟩) (hc : ctx < 400) (hl : out.length ≤ 10000000) :
    Calls Try.prog 99 #[.pointer (some ⟨b, 0, none⟩), .agg #[.int .i64 ctx, .int .i64 bit]] w fun e w' => e = .returned (.tuple #[]) ∧ EncAt w' B b p (putE ⟨lik, low, width, out⟩ ctx bit) ∧ Below B w w' := by
  have hlo : 0 ≤ low := hs.low0
  have hsum : low + width ≤ 8589934592 := hs.sum
  have hw0 : 16777216 ≤ width := hs.w0
  have hw1 : width ≤ 4294967295 := hs.w1
  have hlk : LikOk lik := hs.lik
  have hbo : BytesOk out := hs.out
  have hr := lik_rd hlk (c := (ctx : Int)) (by omega) (by omega)
  have hpr := partE_range hlk hw0 (ctx := (ctx : Int)) (by omega) (by omega)
  have HSZ := Aside0.mk (enc_lt h)
  have HE0 := Aside0.mk h
  obtain ⟨L, hP, v, G, hR⟩ := h
  have hcl := lik_cell L ctx (by rw [hlk.1]; exact hc)
  have hb0 : w.cell? ⟨b, 0, none⟩ = some (.pointer (some ⟨p, 0, none⟩)) := (blk_cell G 0).trans rfl
  have hb1 : w.cell? ⟨b, 1, none⟩ = some (.int .i64 low) := (blk_cell G 1).trans rfl
  have hb2 : w.cell? ⟨b, 2, none⟩ = some (.int .i64 width) := (blk_cell G 2).trans rfl
  have hf1 := blk_frozen G 1
  have hf2 := blk_frozen G 2
  obtain ⟨x, HX⟩ : ∃ x, Aside0 (x = rd lik (ctx : Int)) := ⟨_, ⟨rfl⟩⟩
  rw [← HX.out] at hr hcl
  obtain ⟨pt, HPT⟩ : ∃ pt, Aside0 (pt = partE lik width (ctx : Int)) := ⟨_, ⟨rfl⟩⟩
  rw [← HPT.out] at hpr
  have hmul : wrap64 (width / 4096 * x) = pt := by
    have e : width / 4096 * x = pt := by rw [HPT.out, HX.out]; rfl
    rw [e]
    exact w64 (by omega) (by omega)
  have hlt : (ctx : Int) < 400 := by omega
  obtain ⟨hr0, hr1⟩ := hr
  obtain ⟨hp0, hp1⟩ := hpr
  have HL := Aside0.mk L
  have HP := Aside0.mk hP
  have HG := Aside0.mk G
  have HO := Aside0.mk hR
  have HK := Aside0.mk hlk
  have HBO := Aside0.mk hbo
  have HN := Aside0.mk hl
  have hbl := World.block_lt_of_cell? w _ hb0
  have hpl := World.block_lt_of_cell? w _ hcl
  clear L hP G hR hlk hbo hl
  rcases hbit with rfl | rfl
  · go_enter Try.func99, Try.ntmps99
    go_wp2
    go_quiet (fail)
    go_wp2
    obtain ⟨W1, HW1⟩ : ∃ W1, Aside0 (W1 = ((w.alloc (.cells #[.int .i64 ctx, .int .i64 0] 31)).drewN nq).setCell ⟨b, 2, none⟩ (.int .i64 pt)) := ⟨_, ⟨rfl⟩⟩
    have E1 := Aside0.mk (show EncAt W1 B b p ⟨lik, low, pt, out⟩ from by rw [HW1.out]; exact enc_width (enc_drewN (enc_alloc HE0.out _) _) pt)
    have B1 := Aside0.mk (show Below B w W1 from by rw [HW1.out]; exact (pw_below_drewN ((Below.refl B w).alloc HSZ.out _) _).setCell HP.out.2 _)
    have k0 : W1.cell? ⟨w.heap.size, 0, none⟩ = some (.int .i64 ctx) := by rw [HW1.out]; (rw [World.cell?_setCell_other _ _ _ _ (by intro e; injection e with e; omega)]; go_simp)
    have k1 : W1.cell? ⟨w.heap.size, 1, none⟩ = some (.int .i64 0) := by rw [HW1.out]; (rw [World.cell?_setCell_other _ _ _ _ (by intro e; injection e with e; omega)]; go_simp)
    rw [← HW1.out]
    clear HW1 hb1 hb2 hf1 hf2 hb0 hcl
    obtain ⟨hb0, hb1, hb2, hf1, hf2, hbl1, hpl1, hbp⟩ := enc_cells E1.out
    go_still_tail 8, (by kernel_rfl)
    change wpList _ _ _ _ _ W1.drew
    go_wp2_with (go_at_call 106; (with_reducible refine (iLearn_calls p lik ctx 0 _ (lik_drew (enc_lik0 E1.out)) HK.out hc).mono ?_); rintro e w' ⟨rfl, ⟨nl, rfl⟩⟩)
    obtain ⟨W2, HW2⟩ : ∃ W2, Aside0 (W2 = (W1.setCell ⟨p, ctx, none⟩ (.int .i64 (learnP (rd lik ctx) 0))).drewN (1 + nl)) := ⟨_, ⟨rfl⟩⟩
    have E2 := Aside0.mk (show EncAt W2 B b p ⟨learnL lik ctx 0, low, pt, out⟩ from by rw [HW2.out]; exact enc_drewN (enc_lik E1.out ctx _) _)
    have B2 := Aside0.mk (show Below B w W2 from by rw [HW2.out]; exact pw_below_drewN (B1.out.setCell HP.out.1 _) _)
    rw [← HW2.out]
    clear HW2 hb0 hb1 hb2 hf1 hf2 k0 k1 E1 B1
    obtain ⟨hb0, hb1, hb2, hf1, hf2, hbl2, hpl2, -⟩ := enc_cells E2.out
    by_cases hsm : pt < 16777216
    · have HE := Aside0.mk (show putE ⟨lik, low, width, out⟩ ctx 0 = ⟨learnL lik ctx 0, low % 16777216 * 256, pt * 256, layL out (low / 16777216)⟩ from by
        have e1 : widthE ⟨lik, low, width, out⟩ ctx 0 = pt := by rw [HPT.out]; rfl
        have e2 : lowE ⟨lik, low, width, out⟩ ctx 0 = low := by first | rfl | (rw [HPT.out]; rfl)
        unfold putE
        rw [e1, e2, if_pos hsm])
      have hq2 : 16777216 ≤ pt * 256 := by omega
      have hq3 : pt * 256 ≤ 4294967296 := by omega
      have hq0 : 0 ≤ low / 16777216 := by omega
      have hq1 : low / 16777216 < 512 := by omega
      refine wp_loop_rounds 2 ?_
      rw [rounds_succ]
      go_wp2_with (go_at_call 100; (with_reducible refine (iLay_calls B b p _ _ _ out _ _ E2.out HBO.out hq0 hq1 (by have := HN.out; omega)).mono ?_); rintro e W3 ⟨rfl, e3, b3⟩; have E3 := Aside0.mk e3; have B3 := Aside0.mk (B2.out.trans b3); clear e3 b3; clear hb0 hb1 hb2 hf1 hf2; obtain ⟨hb0, hb1, hb2, hf1, hf2, hbl3, hpl3, -⟩ := enc_cells E3.out)
      go_region
      go_wp2
      rw [rounds_succ]
      go_wp2
      go_end0
      exact ⟨rfl, by rw [HE.out]; exact enc_drew (enc_width (enc_low E3.out _) _), below_drew ((B3.out.setCell HP.out.2 _).setCell HP.out.2 _)⟩
    · have HE := Aside0.mk (show putE ⟨lik, low, width, out⟩ ctx 0 = ⟨learnL lik ctx 0, low, pt, out⟩ from by
        have e1 : widthE ⟨lik, low, width, out⟩ ctx 0 = pt := by rw [HPT.out]; rfl
        have e2 : lowE ⟨lik, low, width, out⟩ ctx 0 = low := by first | rfl | (rw [HPT.out]; rfl)
        unfold putE
        rw [e1, e2, if_neg hsm])
      have hq2 : 16777216 ≤ pt := by omega
      refine wp_loop_rounds 1 ?_
      rw [rounds_succ]
      go_wp2
      go_end0
      exact ⟨rfl, by rw [HE.out]; exact E2.out, B2.out⟩
  · go_enter Try.func99, Try.ntmps99
    go_wp2
    go_quiet (fail)
    go_wp2
    go_region
    go_wp2
    obtain ⟨W1, HW1⟩ : ∃ W1, Aside0 (W1 = (((w.alloc (.cells #[.int .i64 ctx, .int .i64 1] 31)).drewN (nq + 1)).setCell ⟨b, 1, none⟩ (.int .i64 (low + pt))).setCell ⟨b, 2, none⟩ (.int .i64 (width - pt))) := ⟨_, ⟨rfl⟩⟩
    have E1 := Aside0.mk (show EncAt W1 B b p ⟨lik, (low + pt), (width - pt), out⟩ from by rw [HW1.out]; exact enc_width (enc_low (enc_drewN (enc_alloc HE0.out _) _) _) _)
    have B1 := Aside0.mk (show Below B w W1 from by rw [HW1.out]; exact ((pw_below_drewN ((Below.refl B w).alloc HSZ.out _) _).setCell HP.out.2 _).setCell HP.out.2 _)
    have k0 : W1.cell? ⟨w.heap.size, 0, none⟩ = some (.int .i64 ctx) := by rw [HW1.out]; (rw [World.cell?_setCell_other _ _ _ _ (by intro e; injection e with e; omega), World.cell?_setCell_other _ _ _ _ (by intro e; injection e with e; omega)]; go_simp)
    have k1 : W1.cell? ⟨w.heap.size, 1, none⟩ = some (.int .i64 1) := by rw [HW1.out]; (rw [World.cell?_setCell_other _ _ _ _ (by intro e; injection e with e; omega), World.cell?_setCell_other _ _ _ _ (by intro e; injection e with e; omega)]; go_simp)
    rw [← HW1.out]
    clear HW1 hb1 hb2 hf1 hf2 hb0 hcl
    obtain ⟨hb0, hb1, hb2, hf1, hf2, hbl1, hpl1, hbp⟩ := enc_cells E1.out
    go_still_tail 8, (by kernel_rfl)
    change wpList _ _ _ _ _ W1.drew
    go_wp2_with (go_at_call 106; (with_reducible refine (iLearn_calls p lik ctx 1 _ (lik_drew (enc_lik0 E1.out)) HK.out hc).mono ?_); rintro e w' ⟨rfl, ⟨nl, rfl⟩⟩)
    obtain ⟨W2, HW2⟩ : ∃ W2, Aside0 (W2 = (W1.setCell ⟨p, ctx, none⟩ (.int .i64 (learnP (rd lik ctx) 1))).drewN (1 + nl)) := ⟨_, ⟨rfl⟩⟩
    have E2 := Aside0.mk (show EncAt W2 B b p ⟨learnL lik ctx 1, (low + pt), (width - pt), out⟩ from by rw [HW2.out]; exact enc_drewN (enc_lik E1.out ctx _) _)
    have B2 := Aside0.mk (show Below B w W2 from by rw [HW2.out]; exact pw_below_drewN (B1.out.setCell HP.out.1 _) _)
    rw [← HW2.out]
    clear HW2 hb0 hb1 hb2 hf1 hf2 k0 k1 E1 B1
    obtain ⟨hb0, hb1, hb2, hf1, hf2, hbl2, hpl2, -⟩ := enc_cells E2.out
    by_cases hsm : (width - pt) < 16777216
    · have HE := Aside0.mk (show putE ⟨lik, low, width, out⟩ ctx 1 = ⟨learnL lik ctx 1, (low + pt) % 16777216 * 256, (width - pt) * 256, layL out ((low + pt) / 16777216)⟩ from by
        have e1 : widthE ⟨lik, low, width, out⟩ ctx 1 = (width - pt) := by rw [HPT.out]; rfl
        have e2 : lowE ⟨lik, low, width, out⟩ ctx 1 = (low + pt) := by first | rfl | (rw [HPT.out]; rfl)
        unfold putE
        rw [e1, e2, if_pos hsm])
      have hq2 : 16777216 ≤ (width - pt) * 256 := by omega
      have hq3 : (width - pt) * 256 ≤ 4294967296 := by omega
      have hq0 : 0 ≤ (low + pt) / 16777216 := by omega
      have hq1 : (low + pt) / 16777216 < 512 := by omega
      refine wp_loop_rounds 2 ?_
      rw [rounds_succ]
      go_wp2_with (go_at_call 100; (with_reducible refine (iLay_calls B b p _ _ _ out _ _ E2.out HBO.out hq0 hq1 (by have := HN.out; omega)).mono ?_); rintro e W3 ⟨rfl, e3, b3⟩; have E3 := Aside0.mk e3; have B3 := Aside0.mk (B2.out.trans b3); clear e3 b3; clear hb0 hb1 hb2 hf1 hf2; obtain ⟨hb0, hb1, hb2, hf1, hf2, hbl3, hpl3, -⟩ := enc_cells E3.out)
      go_region
      go_wp2
      rw [rounds_succ]
      go_wp2
      go_end0
      exact ⟨rfl, by rw [HE.out]; exact enc_drew (enc_width (enc_low E3.out _) _), below_drew ((B3.out.setCell HP.out.2 _).setCell HP.out.2 _)⟩
    · have HE := Aside0.mk (show putE ⟨lik, low, width, out⟩ ctx 1 = ⟨learnL lik ctx 1, (low + pt), (width - pt), out⟩ from by
        have e1 : widthE ⟨lik, low, width, out⟩ ctx 1 = (width - pt) := by rw [HPT.out]; rfl
        have e2 : lowE ⟨lik, low, width, out⟩ ctx 1 = (low + pt) := by first | rfl | (rw [HPT.out]; rfl)
        unfold putE
        rw [e1, e2, if_neg hsm])
      have hq2 : 16777216 ≤ (width - pt) := by omega
      refine wp_loop_rounds 1 ?_
      rw [rounds_succ]
      go_wp2
      go_end0
      exact ⟨rfl, by rw [HE.out]; exact E2.out, B2.out⟩

/-! ### impl_encodeBins: function 65 (by hand) -/
def pairB (x : S31) : Int × Int := (x.f0, x.f1)
theorem and255 {x : Int} (h0 : 0 ≤ x) (h1 : x < 4611686018427387904) : Go.bits .and .i64 x 255 = x % 256 :=
  bits_mask .i64 62 (by decide) (fun n a b => by rw [IntKind.wrap_i64]; omega) 8 (by decide) x h0 h1
theorem pair_take {l : List S31} {k : Nat} (hk : k < l.length) : (l.map pairB).take (k + 1) = (l.map pairB).take k ++ [pairB l[k]] := by
  rw [List.take_succ_eq_append_getElem (by simpa using hk)]
  simp
theorem rdT_nat {l : List S31} {k : Nat} (hk : k < l.length) : rd_T31 l (k : Int) = l[k] := by
  simp [rd_T31, List.getD, hk]
theorem binsOk_take {l : List (Int × Int)} (h : BinsOk l) (k : Nat) : BinsOk (l.take k) := fun x hx => h x (List.mem_of_mem_take hx)
theorem puts_state (l : List S31) (hok : BinsOk (l.map pairB)) (hl : l.length ≤ 1000000) (k : Nat) : EncOk (putsE startE ((l.map pairB).take k)) ∧ (putsE startE ((l.map pairB).take k)).out.length ≤ 1000000 := by
  refine ⟨puts_ok _ start_ok (binsOk_take hok k), ?_⟩
  have h1 := puts_length ((l.map pairB).take k) startE
  have h2 : ((l.map pairB).take k).length ≤ l.length := by rw [List.length_take, List.length_map]; omega
  simp only [startE, List.length_nil] at h1 ⊢
  omega
theorem enc_start {W : World} {B p : Nat} (L : LikAt W p likL) (hB : B ≤ p) (hs : B ≤ W.heap.size) : EncAt (W.alloc (.cells #[.pointer (some ⟨p, 0, none⟩), .int .i64 0, .int .i64 4294967295, .slice none 0 0] 102)) B W.heap.size p startE := by
  have hb := below_alloc (Below.refl W.heap.size W) (.cells #[.pointer (some ⟨p, 0, none⟩), .int .i64 0, .int .i64 4294967295, .slice none 0 0] 102)
  exact ⟨(hb.block p (blk_lt L)).trans L, ⟨hB, hs⟩, _, blk_new W _, Kd.R_nil _ _ _ _ _⟩
set_option maxHeartbeats 4000000 in
set_option maxRecDepth 100000 in
theorem iEncodeBins_calls (A : Option Addr) (c : Nat) (l : List S31) (w : World) (hr : Kd.C k31 w A l.length l) (hok : BinsOk (l.map pairB)) (hl : l.length ≤ 1000000) :
    Calls Try.prog 65 #[.slice A l.length c] w fun e w' => ∃ v, e = .returned v ∧ Kd.R (Kd.int .u8) 5 w' w.heap.size (fun _ => True) v (encL (l.map pairB)) ∧ Below w.heap.size w w' := by
  have hu := Try.underlying31
  have HR := Aside0.mk hr
  have HK := Aside0.mk hok
  have HN := Aside0.mk hl
  clear hr hok hl
  go_enter Try.func65, Try.ntmps65
  go_wp2_with (go_at_call 98; (with_reducible refine (iNewLik_calls _).mono ?_); rintro e w1 ⟨p, rfl, hlk, hp, hb⟩; have HL := Aside0.mk hlk; have HP := Aside0.mk hp; have HB := Aside0.mk hb; clear hlk hp hb)
  obtain ⟨W2, HW2⟩ : ∃ W2, Aside0 (W2 = w1.alloc (.cells #[.pointer (some ⟨p, 0, none⟩), .int .i64 0, .int .i64 4294967295, .slice none 0 0] 102)) := ⟨_, ⟨rfl⟩⟩
  have HE := Aside0.mk (show EncAt W2 w.heap.size w1.heap.size p (putsE startE ((l.map pairB).take 0)) from by rw [HW2.out]; exact enc_start HL.out HP.out HB.out.size)
  have HB2 := Aside0.mk (show Below w.heap.size w W2 from by rw [HW2.out]; exact below_alloc HB.out _)
  rw [← HW2.out]
  clear HW2 HL HB
  obtain ⟨b, HBB⟩ : ∃ b, Aside0 (b = w1.heap.size) := ⟨_, ⟨rfl⟩⟩
  rw [← HBB.out] at HE ⊢
  clear HBB
  have HB := HB2
  clear HB2
  go_loopg [12] l.length (fun kq v12 w' => ∃ (k : Nat), v12 = .int .i64 (k : Int) ∧ Aside0 (k + kq = l.length) ∧ Aside0 (EncAt w' w.heap.size b p (putsE startE ((l.map pairB).take k))) ∧ Aside0 (Below w.heap.size w w'))
  case atStart => exact ⟨0, rfl, ⟨by omega⟩, HE, HB⟩
  case round =>
    clear HE HB
    obtain ⟨k, rfl, HQ, HE, HB⟩ := hrel
    have hst := puts_state l HK.out HN.out k
    have HS1 := Aside0.mk hst.1
    have HS2 := Aside0.mk hst.2
    clear hst
    by_cases hk : k < l.length
    · have hki : (k : Int) < (l.length : Int) := by omega
      have hkn : l.length ≤ 1000000 := HN.out
      obtain ⟨ad, rfl, hx0, hx1⟩ := at_T31 HR.out (k : Int) (by omega) hki
      rw [rdT_nat hk, Int.toNat_natCast] at hx0 hx1
      have hbin := HK.out (pairB l[k]) (List.mem_map.2 ⟨_, List.getElem_mem hk, rfl⟩)
      obtain ⟨⟨hb0, hb1⟩, hb2⟩ := hbin
      have hb0 : 0 ≤ l[k].f0 := hb0
      have hb1 : l[k].f0 < 400 := hb1
      have hb2 : l[k].f1 = 0 ∨ l[k].f1 = 1 := hb2
      obtain ⟨ctx, HC⟩ := Int.eq_ofNat_of_zero_le hb0
      have HT := Aside0.mk (show (l.map pairB).take (k + 1) = (l.map pairB).take k ++ [((ctx : Int), l[k].f1)] from by rw [pair_take hk]; unfold pairB; rw [HC])
      rw [HC] at hx0 hb1
      have hc : ctx < 400 := by omega
      have HB2 := Aside0.mk hb2
      have y0 := pw_cell_below HB.out hx0
      have y1 := pw_cell_below HB.out hx1
      clear hb0 hb1 hb2 HC hx0 hx1
      obtain ⟨bit, HBI⟩ : ∃ bit, Aside0 (bit = l[k].f1) := ⟨_, ⟨rfl⟩⟩
      rw [← HBI.out] at HT HB2 y1
      clear HBI
      go_wp2_with (go_at_call 99; (with_reducible refine (iPut_calls w.heap.size b p _ _ _ _ ctx bit HB2.out _ (enc_alloc HE.out _) HS1.out hc (Nat.le_trans HS2.out (by decide))).mono ?_); rintro e W3 ⟨rfl, e3, b3⟩; have HE3 := Aside0.mk e3; have HB3 := Aside0.mk ((below_alloc HB.out _).trans b3); clear e3 b3)
      go_roundg (l.length - (k + 1))
      case measure => have := HQ.out; omega
      case rel =>
        refine ⟨k + 1, by first | rfl | go_num | simp, ⟨by have := HQ.out; omega⟩, ⟨?_⟩, HB3⟩
        rw [HT.out, puts_snoc]
        exact HE3.out
    · have hki : ¬ (k : Int) < (l.length : Int) := by omega
      have HKE := Aside0.mk (show (l.map pairB).take k = l.map pairB from List.take_of_length_le (by rw [List.length_map]; omega))
      rw [HKE.out] at HE HS1 HS2
      clear HKE
      have HEN := Aside0.mk (show encL (l.map pairB) = endE (putsE startE (l.map pairB)) from rfl)
      obtain ⟨s, HSS⟩ : ∃ s, Aside0 (s = putsE startE (l.map pairB)) := ⟨_, ⟨rfl⟩⟩
      rw [← HSS.out] at HE HS1 HS2 HEN
      obtain ⟨lik, low, width, out⟩ := s
      have hlow0 : 0 ≤ low := HS1.out.low0
      have hlow1 : low ≤ 8589934592 := by have h1 : low + width ≤ 8589934592 := HS1.out.sum; have h2 : 16777216 ≤ width := HS1.out.w0; omega
      have HO0 := Aside0.mk (show BytesOk out from HS1.out.out)
      have HN0 := Aside0.mk (show out.length ≤ 1000000 from HS2.out)
      obtain ⟨hb0, hb1, hb2, hf1, hf2, hbl, hpl, hbp⟩ := enc_cells HE.out
      have hq0 : 0 ≤ low / 16777216 := by omega
      have hq1 : low / 16777216 < 512 := by have h1 : low + width ≤ 8589934592 := HS1.out.sum; have h2 : 16777216 ≤ width := HS1.out.w0; omega
      have a16 : Go.bits .and .i64 (low / 65536) 255 = low / 65536 % 256 := and255 (by omega) (by omega)
      have a8 : Go.bits .and .i64 (low / 256) 255 = low / 256 % 256 := and255 (by omega) (by omega)
      have a0 : Go.bits .and .i64 low 255 = low % 256 := and255 (by omega) (by omega)
      obtain ⟨q16, H16⟩ : ∃ q, Aside0 (q = low / 65536 % 256) := ⟨_, ⟨rfl⟩⟩
      obtain ⟨q8, H8⟩ : ∃ q, Aside0 (q = low / 256 % 256) := ⟨_, ⟨rfl⟩⟩
      obtain ⟨q0, H0⟩ : ∃ q, Aside0 (q = low % 256) := ⟨_, ⟨rfl⟩⟩
      rw [← H16.out] at a16
      rw [← H8.out] at a8
      rw [← H0.out] at a0
      have r16 : 0 ≤ q16 ∧ q16 < 512 := by have := H16.out; omega
      have r8 : 0 ≤ q8 ∧ q8 < 512 := by have := H8.out; omega
      have r0 : 0 ≤ q0 ∧ q0 < 512 := by have := H0.out; omega
      have R16 := Aside0.mk r16
      have R8 := Aside0.mk r8
      have R0 := Aside0.mk r0
      clear r16 r8 r0
      obtain ⟨o1, HO1⟩ : ∃ o, Aside0 (o = layL out (low / 16777216)) := ⟨_, ⟨rfl⟩⟩
      have K1 := Aside0.mk (show BytesOk o1 ∧ o1.length ≤ 1000001 from by rw [HO1.out]; exact ⟨layL_ok HO0.out _, by rw [layL_length]; have := HN0.out; omega⟩)
      obtain ⟨o2, HO2⟩ : ∃ o, Aside0 (o = layL o1 q16) := ⟨_, ⟨rfl⟩⟩
      have K2 := Aside0.mk (show BytesOk o2 ∧ o2.length ≤ 1000002 from by rw [HO2.out]; exact ⟨layL_ok K1.out.1 _, by rw [layL_length]; have := K1.out.2; omega⟩)
      obtain ⟨o3, HO3⟩ : ∃ o, Aside0 (o = layL o2 q8) := ⟨_, ⟨rfl⟩⟩
      have K3 := Aside0.mk (show BytesOk o3 ∧ o3.length ≤ 1000003 from by rw [HO3.out]; exact ⟨layL_ok K2.out.1 _, by rw [layL_length]; have := K2.out.2; omega⟩)
      have HEND := Aside0.mk (show encL (l.map pairB) = layL o3 q0 from by rw [HEN.out, HO3.out, HO2.out, HO1.out, H16.out, H8.out, H0.out]; rfl)
      go_wp2_with (first | (go_at_call 100; (with_reducible refine (iLay_calls w.heap.size b p lik low width out _ _ HE.out HO0.out hq0 hq1 (Nat.le_trans HN0.out (by decide))).mono ?_); rintro e W3 ⟨rfl, e3, b3⟩; rw [← HO1.out] at e3; have HE3 := Aside0.mk e3; have HB3 := Aside0.mk (HB.out.trans b3); clear e3 b3; clear hb0 hb1 hb2 hf1 hf2; obtain ⟨hb0, hb1, hb2, hf1, hf2, hbl3, hpl3, -⟩ := enc_cells HE3.out))
      refine wp_loop_rounds 4 ?_
      rw [rounds_succ]
      go_wp2_with (first | (go_at_call 100; (with_reducible refine (iLay_calls w.heap.size b p lik low width o1 q16 _ HE3.out K1.out.1 R16.out.1 R16.out.2 (Nat.le_trans K1.out.2 (by decide))).mono ?_); rintro e W4 ⟨rfl, e4, b4⟩; rw [← HO2.out] at e4; have HE4 := Aside0.mk e4; have HB4 := Aside0.mk (HB3.out.trans b4); clear e4 b4; clear hb0 hb1 hb2 hf1 hf2; obtain ⟨hb0, hb1, hb2, hf1, hf2, hbl4, hpl4, -⟩ := enc_cells HE4.out))
      rw [rounds_succ]
      go_wp2_with (first | (go_at_call 100; (with_reducible refine (iLay_calls w.heap.size b p lik low width o2 q8 _ HE4.out K2.out.1 R8.out.1 R8.out.2 (Nat.le_trans K2.out.2 (by decide))).mono ?_); rintro e W5 ⟨rfl, e5, b5⟩; rw [← HO3.out] at e5; have HE5 := Aside0.mk e5; have HB5 := Aside0.mk (HB4.out.trans b5); clear e5 b5; clear hb0 hb1 hb2 hf1 hf2; obtain ⟨hb0, hb1, hb2, hf1, hf2, hbl5, hpl5, -⟩ := enc_cells HE5.out))
      rw [rounds_succ]
      go_wp2_with (first | (go_at_call 100; (with_reducible refine (iLay_calls w.heap.size b p lik low width o3 q0 _ HE5.out K3.out.1 R0.out.1 R0.out.2 (Nat.le_trans K3.out.2 (by decide))).mono ?_); rintro e W6 ⟨rfl, e6, b6⟩; rw [← HEND.out] at e6; have HE6 := Aside0.mk e6; have HB6 := Aside0.mk (HB5.out.trans b6); clear e6 b6; clear hb0 hb1 hb2 hf1 hf2; obtain ⟨L6, P6, v6, G6, R6⟩ := HE6.out; have hc3 : W6.cell? ⟨b, 3, none⟩ = some v6 := (blk_cell G6 3).trans rfl; have HR6 := Aside0.mk R6; clear L6 P6 G6 R6))
      rw [rounds_succ]
      go_wp2
      go_ret
      exact ⟨_, rfl, HR6.out, HB6.out⟩

/-! ### impl_EncodeBins: function 22 (by hand) -/
theorem binsB_ok {l : List S31} (h : l.all binB = true) : BinsOk (l.map pairB) := by
  intro x hx
  obtain ⟨y, hy, rfl⟩ := List.mem_map.1 hx
  have := List.all_eq_true.1 h y hy
  simp only [binB, Bool.and_eq_true, inR_iff] at this
  exact ⟨⟨this.1.1, by show y.f0 < 400; omega⟩, by show y.f1 = 0 ∨ y.f1 = 1; omega⟩
def encodeI (l : List S31) : List Int := if binsB l = true then encL (l.map pairB) else []
def impl_EncodeBins.f (l0 : List S31) : Option (List Int) := if l0.length ≤ 4611686018427387904 then some (encodeI l0) else none
set_option maxHeartbeats 4000000 in
set_option maxRecDepth 100000 in
theorem impl_EncodeBins.calls (A0 : Option Addr) (c0 : Nat) (l0 : List S31) (r : List Int) (w : World) (hr0 : Kd.C k31 w A0 l0.length l0) (hc0 : l0.length ≤ c0) (h : impl_EncodeBins.f l0 = some r) :
    Calls Try.prog 22 #[.slice A0 l0.length c0] w fun e w' => ∃ v0_ : Value, e = .returned (v0_) ∧ Kd.R (Kd.int .u8) 5 w' w.heap.size (fun _ => True) v0_ r ∧ Below w.heap.size w w' := by
  unfold impl_EncodeBins.f at h
  by_cases hl : l0.length ≤ 4611686018427387904
  · rw [if_pos hl] at h
    obtain rfl := Option.some.inj h
    clear h
    obtain ⟨k, hk⟩ := (areBins_f l0 hl).rounds
    have HA := Aside0.mk (impl_areBins.calls k A0 c0 l0 _ w hr0 hc0 hk)
    have HR := Aside0.mk hr0
    clear hr0 hc0 hk hl
    by_cases hb : binsB l0 = true
    · have HE := Aside0.mk (show encodeI l0 = encL (l0.map pairB) from by unfold encodeI; rw [if_pos hb])
      rw [HE.out]
      clear HE
      have HN := Aside0.mk (binsB_len hb)
      have HO := Aside0.mk (show BinsOk (l0.map pairB) from binsB_ok (by simp only [binsB, Bool.and_eq_true] at hb; exact hb.1))
      rw [hb] at HA
      clear hb
      go_enter Try.func22, Try.ntmps22
      go_wp2_with (first
        | (go_at_call 64; (with_reducible refine HA.out.mono ?_); rintro e w1 ⟨rfl, hb1⟩; have HB := Aside0.mk hb1; clear hb1)
        | (go_at_call 65; (with_reducible refine (iEncodeBins_calls A0 c0 l0 _ (Kd.C_below HR.out HB.out) HO.out (Nat.le_trans HN.out (by decide))).mono ?_); rintro e w2 ⟨v, rfl, hv, hb2⟩; have HV := Aside0.mk hv; have HB2 := Aside0.mk hb2; clear hv hb2))
      go_ret
      exact ⟨_, rfl, Kd.R_lower HV.out (below_size HB.out), below_step HB.out HB2.out⟩
    · have HE := Aside0.mk (show encodeI l0 = [] from by unfold encodeI; rw [if_neg hb])
      rw [HE.out]
      clear HE
      rw [Bool.eq_false_iff.2 hb] at HA
      clear hb
      go_enter Try.func22, Try.ntmps22
      go_wp2_with (first
        | (go_at_call 64; (with_reducible refine HA.out.mono ?_); rintro e w1 ⟨rfl, hb1⟩; have HB := Aside0.mk hb1; clear hb1))
      go_ret
      exact ⟨_, rfl, Kd.R_nil _ _ _ _ _, HB.out⟩
  · rw [if_neg hl] at h
    cases h

/-! ### spec_ListBins: function 34 -/
mutual
def spec_ListBins.j0 : Nat → List Int → Int → List (S31) → Bool → Option ((List (S31)))
  | 0, _, _, _, _ => none
  | k + 1, x0, x1, x5, x15 => if x15 = true then (some x5) else (spec_ListBins.l0 k x0 x1 x5 0)
def spec_ListBins.l0 : Nat → List Int → Int → List (S31) → Int → Option ((List (S31)))
  | 0, _, _, _, _ => none
  | k + 1, x0, x1, x5, x6 => if x6 < (x0.length : Int) then (if 0 ≤ x6 then ((spec_ClassOf.f k (rd x0 x6)).bind fun t154 => (if t154 < 0 then (some (([] : List (S31)))) else ((spec_l10Bins.f k (rd x0 x6) x1).bind fun t159 => (if x5.length + t159.length < 8796093022208 then (spec_ListBins.l0 k x0 x1 (x5 ++ t159) (wrap64 (x6 + 1))) else (none))))) else (none)) else (some x5)
end
def spec_ListBins.f (k : Nat) (l0 : List Int) (a1 : Int) : Option ((List (S31))) := (some (([] : List (S31)) : List (S31))).bind fun y149 => (if (l0.length : Int) > 4096 then (spec_ListBins.j0 k l0 a1 y149 true) else ((spec_l01Between.f a1 0 380).bind fun t152 => (spec_ListBins.j0 k l0 a1 y149 (!t152))))
theorem spec_ListBins.mono_l : ∀ k, (∀ y0 y1 y2 y3, LeO (spec_ListBins.j0 k y0 y1 y2 y3) (spec_ListBins.j0 (k + 1) y0 y1 y2 y3)) ∧ (∀ y0 y1 y2 y3, LeO (spec_ListBins.l0 k y0 y1 y2 y3) (spec_ListBins.l0 (k + 1) y0 y1 y2 y3))
  | 0 => ⟨fun _ _ _ _ r h => by simp [spec_ListBins.j0] at h, fun _ _ _ _ r h => by simp [spec_ListBins.l0] at h⟩
  | k + 1 => by
    obtain ⟨ih0, ih1⟩ := spec_ListBins.mono_l k
    refine ⟨?_, ?_⟩
    · intro y0 y1 y2 y3
      unfold spec_ListBins.j0
      repeat' first
      | (with_reducible exact ih0 _ _ _ _)
      | (with_reducible exact ih1 _ _ _ _)
      | (with_reducible exact spec_ClassOf.mono _ _)
      | (with_reducible exact spec_l10Bins.mono _ _ _)
      | (with_reducible exact LeO.refl _)
      | (with_reducible exact LeO.none _)
      | (with_reducible refine LeO.ite ?_ ?_)
      | (with_reducible refine LeO.bind ?_ (fun _ => ?_))
      | exact ih0 _ _ _ _
      | exact ih1 _ _ _ _
      | exact spec_ClassOf.mono _ _
      | exact spec_l10Bins.mono _ _ _
      | exact LeO.none _
      | refine LeO.ite ?_ ?_
      | refine LeO.bind ?_ (fun _ => ?_)
    · intro y0 y1 y2 y3
      unfold spec_ListBins.l0
      repeat' first
      | (with_reducible exact ih0 _ _ _ _)
      | (with_reducible exact ih1 _ _ _ _)
      | (with_reducible exact spec_ClassOf.mono _ _)
      | (with_reducible exact spec_l10Bins.mono _ _ _)
      | (with_reducible exact LeO.refl _)
      | (with_reducible exact LeO.none _)
      | (with_reducible refine LeO.ite ?_ ?_)
      | (with_reducible refine LeO.bind ?_ (fun _ => ?_))
      | exact ih0 _ _ _ _
      | exact ih1 _ _ _ _
      | exact spec_ClassOf.mono _ _
      | exact spec_l10Bins.mono _ _ _
      | exact LeO.none _
      | refine LeO.ite ?_ ?_
      | refine LeO.bind ?_ (fun _ => ?_)
theorem spec_ListBins.mono : ∀ a0 a1 k, LeO (spec_ListBins.f k a0 a1) (spec_ListBins.f (k + 1) a0 a1) := by
  intro a0 a1 k
  obtain ⟨ih0, ih1⟩ := spec_ListBins.mono_l k
  unfold spec_ListBins.f
  repeat' first
      | (with_reducible exact ih0 _ _ _ _)
      | (with_reducible exact ih1 _ _ _ _)
      | (with_reducible exact spec_ClassOf.mono _ _)
      | (with_reducible exact spec_l10Bins.mono _ _ _)
      | (with_reducible exact LeO.refl _)
      | (with_reducible exact LeO.none _)
      | (with_reducible refine LeO.ite ?_ ?_)
      | (with_reducible refine LeO.bind ?_ (fun _ => ?_))
      | exact ih0 _ _ _ _
      | exact ih1 _ _ _ _
      | exact spec_ClassOf.mono _ _
      | exact spec_l10Bins.mono _ _ _
      | exact LeO.none _
      | refine LeO.ite ?_ ?_
      | refine LeO.bind ?_ (fun _ => ?_)
set_option maxHeartbeats 8000000 in
set_option maxRecDepth 100000 in
theorem spec_ListBins.calls (k : Nat) (A0 : Option Addr) (c0 : Nat) (l0 : List Int) (a1 : Int) (r : List (S31)) (w : World) (hr0 : Kd.C (Kd.int .i64) w A0 l0.length l0) (hc0 : l0.length ≤ c0) (h : spec_ListBins.f k l0 a1 = some r) :
    Calls Try.prog 34 #[.slice A0 l0.length c0, .int .i64 a1] w fun e w' => ∃ v0_ : Value, e = .returned (v0_) ∧ Kd.R k31 31 w' w.heap.size (fun _ => True) v0_ r ∧ Below w.heap.size w w' := by
  have HR0 := Aside0.mk hr0
  have HC0 := Aside0.mk hc0
  clear hr0 hc0
  have HB := Aside0.mk (Below.refl w.heap.size w)
  have H : ((some (([] : List (S31)) : List (S31))).bind fun y149 => (if (l0.length : Int) > 4096 then (spec_ListBins.j0 k l0 a1 y149 true) else ((spec_l01Between.f a1 0 380).bind fun t152 => (spec_ListBins.j0 k l0 a1 y149 (!t152))))) = some r := h
  clear h
  obtain ⟨y149, hy149⟩ : ∃ y_ : List (S31), y_ = (([] : List (S31))) := ⟨_, rfl⟩
  replace H : (if (l0.length : Int) > 4096 then (spec_ListBins.j0 k l0 a1 y149 true) else ((spec_l01Between.f a1 0 380).bind fun t152 => (spec_ListBins.j0 k l0 a1 y149 (!t152)))) = some r := by first | (rw [hy149]; with_reducible exact H) | (have H2_ := (Option.bind_some _ _).symm.trans H; rw [hy149]; with_reducible exact H2_) | (have H2_ := (Option.bind_some _ _).symm.trans H; with_reducible exact H2_) | with_reducible exact H | (rw [hy149]; exact H) | exact H
  have Ny149 := Aside0.mk hy149
  clear hy149
  have HC3 := Aside0.mk H
  clear H
  go_enter Try.func34, Try.ntmps34
  go_upto_region 2 with (first | ((with_reducible refine gate_dst (N := 7) rfl ?_); refine Kd.R_lit k31 _ 31 ?hg (N := 7) ?hd (xs := ([] : List (S31))) (inner := []) (ok := fun _ => True) (okp := fun _ => True) ?hr ?hp (fun _ hk => hk) trivial (Below.refl _ _) (Nat.le_refl _) (by simp) ?_; (case hd => rfl); (case hg => rfl); (case hr => first | (go_simp; done) | (go_simp; rfl)); (case hp => exact (Reps.none _ _)); intro v150 w4 ho5 hb hg_ hnew_; clear hg_ hnew_; (first | rw [← Ny149.out] at ho5 | (simp only [Int.reduceToNat] at ho5; rw [← Ny149.out] at ho5)); have n0_ := Aside0.mk (Kd.R_lower ho5 (below_size (by repeat (first | (with_reducible first | exact HB.out | apply below_alloc | apply pw_below_drewN | apply below_drew1) | exact HB.out)))); have n1_ := Aside0.mk (below_step (by repeat (first | (with_reducible first | exact HB.out | apply below_alloc | apply pw_below_drewN | apply below_drew1) | exact HB.out)) hb); clear HB; have HO151 := n0_; have HB := n1_; clear n0_ n1_; clear hb ho5))
  (try simp only [Act.put, List.setIfInBounds_toArray, List.set_cons_zero, List.set_cons_succ])
  go_cut [15] (fun v15 wc => ∃ (kq : Nat) (x15_2 : Bool), v15 = .bool x15_2 ∧ Aside0 (spec_ListBins.j0 kq l0 a1 y149 x15_2 = some r) ∧ Aside0 (kq ≤ k) ∧ Aside0 (Kd.R k31 31 wc w.heap.size (fun _ => True) v150 y149) ∧ Aside0 (Below w.heap.size w wc))
  case first =>
    have H := HC3.out
    clear HC3
    by_cases c6 : (l0.length : Int) > 4096
    · rw [if_pos c6] at H
      have c6b0 : decide (4096 < (l0.length : Int)) = true := decide_eq_true c6
      have c6b1 : decide (4096 < l0.length) = true := decide_eq_true (by omega)
      clear c6
      (first | rw [c6b0] | (simp only [i64_w, i32_w]; rw [c6b0]) | skip)
      have H' := Aside0.mk H
      clear H
      go_wp2
      go_meet
      case rel => exact ⟨_, (true), (by first | rfl | (simp; done) | (simp [*]; done)), H', ⟨by first | omega | exact Nat.le_refl _⟩, ⟨by (with_reducible repeat (first | apply Kd.R_alloc | apply Kd.R_drewN | apply Kd.R_drew)); exact HO151.out⟩, ⟨by repeat (first | (with_reducible first | exact HB.out | apply below_alloc | apply pw_below_drewN | apply below_drew1) | exact HB.out)⟩⟩
    · rw [if_neg c6] at H
      have c6b0 : decide (4096 < (l0.length : Int)) = false := decide_eq_false c6
      have c6b1 : decide (4096 < l0.length) = false := decide_eq_false (by omega)
      clear c6
      (first | rw [c6b0] | (simp only [i64_w, i32_w]; rw [c6b0]) | skip)
      replace H := Option.bind_eq_some_iff.mp H
      obtain ⟨t152, A70, H⟩ := H
      replace H : (spec_ListBins.j0 k l0 a1 y149 (!t152)) = some r := H
      have A7 := Aside0.mk A70
      clear A70
      have H' := Aside0.mk H
      clear H
      go_wp2_with (first | (go_at_call 58; (with_reducible refine (spec_l01Between.calls a1 0 380 t152 _ A7.out).mono ?_); rintro e w' ⟨rfl, ⟨nd, rfl⟩⟩))
      go_meet
      case rel => exact ⟨_, (!t152), (by first | rfl | (simp; done) | (simp [*]; done)), H', ⟨by first | omega | exact Nat.le_refl _⟩, ⟨by (with_reducible repeat (first | apply Kd.R_alloc | apply Kd.R_drewN | apply Kd.R_drew)); exact HO151.out⟩, ⟨by repeat (first | (with_reducible first | exact HB.out | apply below_alloc | apply pw_below_drewN | apply below_drew1) | exact HB.out)⟩⟩
  case rest =>
    clear HC3
    try clear p2
    try clear c3
    try clear c6
    try clear c6b0
    try clear c6b1
    obtain ⟨kq, x15_2, rfl, HA, HJ2, HO_5, HB⟩ := hcut
    cases kq with
    | zero => exact absurd HA.out (by simp [spec_ListBins.j0])
    | succ kj2 =>
      have H := HA.out
      clear HA
      simp only [spec_ListBins.j0] at H
      by_cases c8 : x15_2 = true
      · subst c8
        have H1 : (some y149) = some r := by rw [if_pos rfl] at H; exact H
        clear H
        have H := H1
        clear H1
        obtain rfl := Option.some.inj H
        go_wp2
        go_ret
        exact ⟨_, by first | rfl | (simp [errW_none, errW_some] <;> rfl) | (simp [*, errW_none, errW_some] <;> rfl), by (with_reducible repeat (first | apply Kd.R_alloc | apply Kd.R_drewN | apply Kd.R_drew)); exact HO_5.out, by repeat (first | (with_reducible first | exact HB.out | apply below_alloc | apply pw_below_drewN | apply below_drew1) | exact HB.out)⟩
      · replace c8 := Bool.eq_false_iff.mpr c8
        subst c8
        have H1 : (spec_ListBins.l0 kj2 l0 a1 y149 0) = some r := by rw [if_neg (show ¬ (false = true) by decide)] at H; exact H
        clear H
        have H := H1
        clear H1
        have H' := Aside0.mk H
        clear H
        go_wp2
        go_loopg [5, 6] kj2 (fun kq v5 v6 w' => ∃ (x5_2 : List (S31)) (x6_2 : Int), v6 = .int .i64 x6_2 ∧ Aside0 (spec_ListBins.l0 kq l0 a1 x5_2 x6_2 = some r) ∧ Aside0 (kq ≤ kj2) ∧ Aside0 (Kd.R k31 31 w' w.heap.size (fun _ => True) v5 x5_2) ∧ Aside0 (Below w.heap.size w w'))
        case atStart => exact ⟨(y149), (0), (by first | rfl | (simp; done) | (simp [*]; done)), H', ⟨Nat.le_refl _⟩, ⟨by (with_reducible repeat (first | apply Kd.R_alloc | apply Kd.R_drewN | apply Kd.R_drew)); exact HO_5.out⟩, ⟨by repeat (first | (with_reducible first | exact HB.out | apply below_alloc | apply pw_below_drewN | apply below_drew1) | exact HB.out)⟩⟩
        case round =>
          clear H'
          try clear p2
          try clear c3
          try clear c6
          try clear c6b0
          try clear c6b1
          try clear c8
          try clear p2
          obtain ⟨x5_2, x6_2, rfl, HA, HK2, HO_5, HB⟩ := hrel
          cases gk with
          | zero => exact absurd HA.out (by simp [spec_ListBins.l0])
          | succ k2 =>
            have H := HA.out
            clear HA
            simp only [spec_ListBins.l0] at H
            by_cases c9 : x6_2 < (l0.length : Int)
            · rw [if_pos c9] at H
              have c9b0 : decide (x6_2 < (l0.length : Int)) = true := decide_eq_true c9
              clear c9
              by_cases c10 : 0 ≤ x6_2
              · rw [if_pos c10] at H
                have c10b0 : decide (0 ≤ x6_2) = true := decide_eq_true c10
                clear c10
                replace H := Option.bind_eq_some_iff.mp H
                obtain ⟨t154, A110, H⟩ := H
                replace H : (if t154 < 0 then (some (([] : List (S31)))) else ((spec_l10Bins.f k2 (rd l0 x6_2) a1).bind fun t159 => (if x5_2.length + t159.length < 8796093022208 then (spec_ListBins.l0 k2 l0 a1 (x5_2 ++ t159) (wrap64 (x6_2 + 1))) else (none)))) = some r := H
                have A11 := Aside0.mk A110
                clear A110
                by_cases c12 : t154 < 0
                · rw [if_pos c12] at H
                  have c12b0 : decide (t154 < 0) = true := decide_eq_true c12
                  clear c12
                  obtain ⟨y155, hy155⟩ : ∃ y_ : List (S31), y_ = (([] : List (S31))) := ⟨_, rfl⟩
                  replace H : (some y155) = some r := by first | (rw [hy155]; with_reducible exact H) | (have H2_ := (Option.bind_some _ _).symm.trans H; rw [hy155]; with_reducible exact H2_) | (have H2_ := (Option.bind_some _ _).symm.trans H; with_reducible exact H2_) | with_reducible exact H | (rw [hy155]; exact H) | exact H
                  have Ny155 := Aside0.mk hy155
                  clear hy155
                  obtain rfl := Option.some.inj H
                  have p153 : 0 ≤ (x6_2 : Int) := of_decide_eq_true (by first | (with_reducible assumption) | assumption)
                  have q153 : x6_2 < (l0.length : Int) := of_decide_eq_true (by first | (with_reducible assumption) | assumption)
                  obtain ⟨ad153, e153, hx153_0⟩ := Kd.at_int HR0.out x6_2 p153 q153
                  cases e153
                  replace hx153_0 := (HB.out.cell (World.block_lt_of_cell? w _ hx153_0)).trans hx153_0
                  replace p153 := eq_true p153
                  replace q153 := eq_true q153
                  go_wp2_with (first | ((with_reducible refine gate_callee (f := 57) rfl ?_); refine goesL_ (some 27) rfl rfl Try.func57 (by kernel_rfl) rfl #[.int .i64 (rd l0 x6_2)] rfl (by (try simp only [List.map_toArray, List.map_cons, List.map_nil]); first | done | rfl | (simp only [List.length_drop, List.length_take]; rfl)) ?_; (with_reducible refine (spec_ClassOf.calls k2 (rd l0 x6_2) t154 _ A11.out).mono ?_); rintro e w' ⟨rfl, ⟨nd, rfl⟩⟩; refine ⟨_, rfl, ?_⟩) | ((with_reducible refine gate_dst (N := 29) rfl ?_); refine Kd.R_lit k31 _ 31 ?hg (N := 29) ?hd (xs := ([] : List (S31))) (inner := []) (ok := fun _ => True) (okp := fun _ => True) ?hr ?hp (fun _ hk => hk) trivial (Below.refl _ _) (Nat.le_refl _) (by simp) ?_; (case hd => rfl); (case hg => rfl); (case hr => first | (go_simp; done) | (go_simp; rfl)); (case hp => exact (Reps.none _ _)); intro v156 w13 ho14 hb hg_ hnew_; clear hg_ hnew_; (first | rw [← Ny155.out] at ho14 | (simp only [Int.reduceToNat] at ho14; rw [← Ny155.out] at ho14)); have n0_ := Aside0.mk (Kd.R_elder' (by (with_reducible repeat (first | apply Kd.R_alloc | apply Kd.R_drewN | apply Kd.R_drew)); exact HO_5.out) (Kd.R_base ho14) hb); have n1_ := Aside0.mk (Kd.R_lower (Kd.R_new' ho14 (Kd.R_lt (by (with_reducible repeat (first | apply Kd.R_alloc | apply Kd.R_drewN | apply Kd.R_drew)); exact HO_5.out))) (below_size (by repeat (first | (with_reducible first | exact HB.out | apply below_alloc | apply pw_below_drewN | apply below_drew1) | exact HB.out)))); have n2_ := Aside0.mk (below_step (by repeat (first | (with_reducible first | exact HB.out | apply below_alloc | apply pw_below_drewN | apply below_drew1) | exact HB.out)) hb); clear HO_5; clear HB; have HO_5 := n0_; have HO157 := n1_; have HB := n2_; clear n0_ n1_ n2_; clear hb ho14))
                  go_ret
                  exact ⟨_, by first | rfl | (simp [errW_none, errW_some] <;> rfl) | (simp [*, errW_none, errW_some] <;> rfl), by (with_reducible repeat (first | apply Kd.R_alloc | apply Kd.R_drewN | apply Kd.R_drew)); exact Kd.R_mono HO157.out (fun _ hk => trivial), by repeat (first | (with_reducible first | exact HB.out | apply below_alloc | apply pw_below_drewN | apply below_drew1) | exact HB.out)⟩
                · rw [if_neg c12] at H
                  have c12b0 : decide (t154 < 0) = false := decide_eq_false c12
                  clear c12
                  replace H := Option.bind_eq_some_iff.mp H
                  obtain ⟨t159, A150, H⟩ := H
                  replace H : (if x5_2.length + t159.length < 8796093022208 then (spec_ListBins.l0 k2 l0 a1 (x5_2 ++ t159) (wrap64 (x6_2 + 1))) else (none)) = some r := H
                  have A15 := Aside0.mk A150
                  clear A150
                  by_cases c16 : x5_2.length + t159.length < 8796093022208
                  · rw [if_pos c16] at H
                    have LMc16 := Aside0.mk c16
                    clear c16
                    obtain ⟨y162, hy162⟩ : ∃ y_ : List (S31), y_ = (x5_2 ++ t159) := ⟨_, rfl⟩
                    replace H : (spec_ListBins.l0 k2 l0 a1 y162 (wrap64 (x6_2 + 1))) = some r := by first | (rw [hy162]; with_reducible exact H) | (have H2_ := (Option.bind_some _ _).symm.trans H; rw [hy162]; with_reducible exact H2_) | (have H2_ := (Option.bind_some _ _).symm.trans H; with_reducible exact H2_) | with_reducible exact H | (rw [hy162]; exact H) | exact H
                    have Ny162 := Aside0.mk hy162
                    clear hy162
                    have H' := Aside0.mk H
                    clear H
                    have p153 : 0 ≤ (x6_2 : Int) := of_decide_eq_true (by first | (with_reducible assumption) | assumption)
                    have q153 : x6_2 < (l0.length : Int) := of_decide_eq_true (by first | (with_reducible assumption) | assumption)
                    obtain ⟨ad153, e153, hx153_0⟩ := Kd.at_int HR0.out x6_2 p153 q153
                    cases e153
                    replace hx153_0 := (HB.out.cell (World.block_lt_of_cell? w _ hx153_0)).trans hx153_0
                    replace p153 := eq_true p153
                    replace q153 := eq_true q153
                    go_wp2_with (first | ((with_reducible refine gate_callee (f := 57) rfl ?_); refine goesL_ (some 27) rfl rfl Try.func57 (by kernel_rfl) rfl #[.int .i64 (rd l0 x6_2)] rfl (by (try simp only [List.map_toArray, List.map_cons, List.map_nil]); first | done | rfl | (simp only [List.length_drop, List.length_take]; rfl)) ?_; (with_reducible refine (spec_ClassOf.calls k2 (rd l0 x6_2) t154 _ A11.out).mono ?_); rintro e w' ⟨rfl, ⟨nd, rfl⟩⟩; refine ⟨_, rfl, ?_⟩; have p158 : 0 ≤ (x6_2 : Int) := of_decide_eq_true (by first | (with_reducible assumption) | assumption); have q158 : x6_2 < (l0.length : Int) := of_decide_eq_true (by first | (with_reducible assumption) | assumption); obtain ⟨ad158, e158, hx158_0⟩ := Kd.at_int HR0.out x6_2 p158 q158; obtain rfl : ad153 = ad158 := (by injection e158); replace hx158_0 := (HB.out.cell (World.block_lt_of_cell? w _ hx158_0)).trans hx158_0; replace p158 := eq_true p158; replace q158 := eq_true q158) | ((with_reducible refine gate_callee (f := 59) rfl ?_); refine goesL_ (some 36) rfl rfl Try.func59 (by kernel_rfl) rfl #[.int .i64 (rd l0 x6_2), .int .i64 a1] rfl (by (try simp only [List.map_toArray, List.map_cons, List.map_nil]); first | done | rfl | (simp only [List.length_drop, List.length_take]; rfl)) ?_; (with_reducible refine (spec_l10Bins.calls k2 (rd l0 x6_2) a1 t159 _ A15.out).mono ?_); rintro e w17 ⟨v160, rfl, ho0, hb⟩; refine ⟨_, rfl, ?_⟩; have n0_ := Aside0.mk (Kd.R_elder' (by (with_reducible repeat (first | apply Kd.R_alloc | apply Kd.R_drewN | apply Kd.R_drew)); exact HO_5.out) (Kd.R_base ho0) hb); have n1_ := Aside0.mk (Kd.R_lower (Kd.R_new' ho0 (Kd.R_lt (by (with_reducible repeat (first | apply Kd.R_alloc | apply Kd.R_drewN | apply Kd.R_drew)); exact HO_5.out))) (below_size (by repeat (first | (with_reducible first | exact HB.out | apply below_alloc | apply pw_below_drewN | apply below_drew1) | exact HB.out)))); have n2_ := Aside0.mk (below_step (by repeat (first | (with_reducible first | exact HB.out | apply below_alloc | apply pw_below_drewN | apply below_drew1) | exact HB.out)) hb); clear HO_5; clear HB; have HO_5 := n0_; have HO161 := n1_; have HB := n2_; clear n0_ n1_ n2_; (try clear hb); (try clear hb2); (try clear hk); (try clear hi); (try clear ho0); obtain ⟨Ao19, co19, eo19⟩ := Kd.R_slice HO161.out; subst eo19) | ((with_reducible refine gate_builtin (b := .append) (xs := #[.tmp 30, .tmp 36]) rfl ?_); at_builtin; refine Kd.R_append_rows k31 (w0 := w) w.heap.size rfl (.tmp 30) (.tmp 36) 22 31 (.agg #[(.int .i64 0), (.int .i64 0)]) 16 rfl Try.underlying22 info31 rfl (by decide) (by omega) u5 x5_2 t159 _ _ _ (fun k_ => some k_ ≠ (.slice Ao19 t159.length co19 : Value).ownBlock) (fun _ => False) rfl rfl ?aO ?aR (fun _ _ h => h) (fun _ h => h.elim) ?aF ?aB ?aS ?aL ?_; (case aR => repeat (first | exact (Kd.R_reads' HO161.out).2.2 | (with_reducible refine Kd.C_alloc ?_ _) | (with_reducible refine Kd.C_drewN ?_ _) | (with_reducible refine Kd.C_drew ?_))); (case aB => exact (by repeat (first | (with_reducible first | exact HB.out | apply below_alloc | apply pw_below_drewN | apply below_drew1) | exact HB.out))); (case aF => exact (fun k_ hk => Kd.fresh' (Kd.R_lt (by (with_reducible repeat (first | apply Kd.R_alloc | apply Kd.R_drewN | apply Kd.R_drew)); exact HO161.out)) k_ hk)); (case aO => exact (by (with_reducible repeat (first | apply Kd.R_alloc | apply Kd.R_drewN | apply Kd.R_drew)); exact Kd.R_mono HO_5.out (fun _ hk => hk.2))); (case aS => exact (below_size (by repeat (first | (with_reducible first | exact HB.out | apply below_alloc | apply pw_below_drewN | apply below_drew1) | exact HB.out)))); (case aL => have := LMc16.out; omega); intro v163 w18 ho hb hg hat; rw [← Ny162.out] at ho; have n0_ := Aside0.mk (Kd.R_after (ok := (fun _ => True)) (by (with_reducible repeat (first | apply Kd.R_alloc | apply Kd.R_drewN | apply Kd.R_drew)); exact HO161.out) hg hat); have n1_ := Aside0.mk (hb); have n2_ := Aside0.mk (ho); clear HO161; clear HB; clear HO_5; have HO161 := n0_; have HB := n1_; have HO164 := n2_; clear n0_ n1_ n2_; clear ho hb hg hat))
                    go_roundg k2
                    case measure => have := HJ2.out; have := HK2.out; omega
                    case rel => exact ⟨(y162), (wrap64 (x6_2 + 1)), (by first | rfl | (simp; done) | (simp [*]; done)), H', ⟨by have := HJ2.out; have := HK2.out; omega⟩, ⟨by (with_reducible repeat (first | apply Kd.R_alloc | apply Kd.R_drewN | apply Kd.R_drew)); exact Kd.R_mono HO164.out (fun _ hk => trivial)⟩, ⟨by repeat (first | (with_reducible first | exact HB.out | apply below_alloc | apply pw_below_drewN | apply below_drew1) | exact HB.out)⟩⟩
                  · rw [if_neg c16] at H
                    exact absurd H (by simp)
              · rw [if_neg c10] at H
                exact absurd H (by simp)
            · rw [if_neg c9] at H
              have c9b0 : decide (x6_2 < (l0.length : Int)) = false := decide_eq_false c9
              clear c9
              obtain rfl := Option.some.inj H
              go_wp2
              go_ret
              exact ⟨_, by first | rfl | (simp [errW_none, errW_some] <;> rfl) | (simp [*, errW_none, errW_some] <;> rfl), by (with_reducible repeat (first | apply Kd.R_alloc | apply Kd.R_drewN | apply Kd.R_drew)); exact HO_5.out, by repeat (first | (with_reducible first | exact HB.out | apply below_alloc | apply pw_below_drewN | apply below_drew1) | exact HB.out)⟩

def listG (l : List Int) (base : Int) : List S31 := l.flatMap fun n => binsN n base
def listI (l : List Int) (base : Int) : List S31 := if l.length ≤ 4096 ∧ inR base 0 380 = true ∧ allR l (-32767) 32767 = true then listG l base else []
theorem allR_cons (x : Int) (l : List Int) (a b : Int) : allR (x :: l) a b = true ↔ inR x a b = true ∧ allR l a b = true := by simp [allR]
theorem listG_length (base : Int) : ∀ l : List Int, allR l (-32767) 32767 = true → (listG l base).length ≤ 40 * l.length
  | [], _ => by simp [listG]
  | x :: l, h => by
    rw [allR_cons] at h
    have h1 := binsN_length (base := base) h.1
    have h2 := listG_length base l h.2
    unfold listG at h2 ⊢
    rw [List.flatMap_cons, List.length_append, List.length_cons]
    omega
theorem sListBins_l0 (l : List Int) (base : Int) (hl : l.length ≤ 4096) (hb : inR base 0 380 = true) : ∀ (d i : Nat) (out : List S31), i + d = l.length → out.length ≤ 40 * i →
    Ev (fun k => spec_ListBins.l0 k l base out i) (if allR (l.drop i) (-32767) 32767 = true then out ++ listG (l.drop i) base else []) := by
  intro d
  induction d with
  | zero =>
    intro i out hi ho
    refine Ev.step (fun k => by rw [spec_ListBins.l0]) (evNeg (by omega) (evCast (Ev.now _) ?_))
    rw [List.drop_eq_nil_of_le (by omega)]
    simp [allR, listG]
  | succ d ih =>
    intro i out hi ho
    have h1 : i < l.length := by omega
    refine Ev.step (fun k => by rw [spec_ListBins.l0]) (evPos (by omega) (evPos (by omega) ?_))
    rw [drop_get h1, rd_nat h1]
    refine evBind (sClassOf_f _) (evIf (fun hc => ?_) (fun hc => ?_))
    · rw [clsI_neg] at hc
      rw [if_neg (fun hh => hc ((allR_cons _ _ _ _).1 hh).1)]
      exact Ev.now _
    · rw [clsI_neg, Classical.not_not] at hc
      have hlen := binsN_length (base := base) hc
      refine evBind (sBins_f hc hb) (evPos (by omega) ?_)
      rw [w64 (by omega) (by omega), show (i : Int) + 1 = ((i + 1 : Nat) : Int) from by omega]
      refine evCast (ih (i + 1) _ (by omega) (by rw [List.length_append]; omega)) ?_
      by_cases ha : allR (l.drop (i + 1)) (-32767) 32767 = true
      · rw [if_pos ha, if_pos ((allR_cons _ _ _ _).2 ⟨hc, ha⟩), List.append_assoc]
        rfl
      · rw [if_neg ha, if_neg (fun hh => ha ((allR_cons _ _ _ _).1 hh).2)]
theorem sListBins_f (l : List Int) (base : Int) : Ev (fun k => spec_ListBins.f k l base) (listI l base) := by
  unfold spec_ListBins.f listI
  refine evBind (Ev.now _) (evIf (fun h => ?_) (fun h => ?_))
  · rw [if_neg (fun hh => by omega)]
    exact Ev.step (fun k => by rw [spec_ListBins.j0]) (evPos rfl (Ev.now _))
  · refine evBind (evConst (between_f _ _ _)) (Ev.step (fun k => by rw [spec_ListBins.j0]) ?_)
    by_cases hb : inR base 0 380 = true
    · refine evNeg (by simp [hb]) (evCast (sListBins_l0 l base (by omega) hb l.length 0 [] (by omega) (by simp)) ?_)
      rw [List.drop_zero, List.nil_append]
      by_cases ha : allR l (-32767) 32767 = true
      · rw [if_pos ha, if_pos ⟨by omega, hb, ha⟩]
      · rw [if_neg ha, if_neg (fun hh => ha hh.2.2)]
    · rw [if_neg (fun hh => hb hh.2.1)]
      exact evPos (by simp [hb]) (Ev.now _)

/-! ### impl_allWithin: function 71 -/
def impl_allWithin.l0 : Nat → Int → Int → List Int → Int → Int → Option (Bool)
  | 0, _, _, _, _, _ => none
  | k + 1, x1, x2, x9, x10, x11 => if x11 < x10 then (if 0 ≤ x11 then (if x11 < (x9.length : Int) then ((impl_within.f (rd x9 x11) x1 x2).bind fun t166 => (if t166 = true then (impl_allWithin.l0 k x1 x2 x9 x10 (wrap64 (x11 + 1))) else (some false))) else (none)) else (none)) else (some true)
def impl_allWithin.f (k : Nat) (l0 : List Int) (a1 : Int) (a2 : Int) : Option (Bool) := impl_allWithin.l0 k a1 a2 l0 (l0.length : Int) 0
theorem impl_allWithin.mono_l : ∀ k, (∀ y0 y1 y2 y3 y4, LeO (impl_allWithin.l0 k y0 y1 y2 y3 y4) (impl_allWithin.l0 (k + 1) y0 y1 y2 y3 y4))
  | 0 => fun _ _ _ _ _ r h => by simp [impl_allWithin.l0] at h
  | k + 1 => by
    have ih0 := impl_allWithin.mono_l k
    · intro y0 y1 y2 y3 y4
      unfold impl_allWithin.l0
      repeat' first
      | (with_reducible exact ih0 _ _ _ _ _)
      | (with_reducible exact LeO.refl _)
      | (with_reducible exact LeO.none _)
      | (with_reducible refine LeO.ite ?_ ?_)
      | (with_reducible refine LeO.bind ?_ (fun _ => ?_))
      | exact ih0 _ _ _ _ _
      | exact LeO.none _
      | refine LeO.ite ?_ ?_
      | refine LeO.bind ?_ (fun _ => ?_)
theorem impl_allWithin.mono : ∀ a0 a1 a2 k, LeO (impl_allWithin.f k a0 a1 a2) (impl_allWithin.f (k + 1) a0 a1 a2) := by
  intro a0 a1 a2 k
  have ih0 := impl_allWithin.mono_l k
  unfold impl_allWithin.f
  repeat' first
      | (with_reducible exact ih0 _ _ _ _ _)
      | (with_reducible exact LeO.refl _)
      | (with_reducible exact LeO.none _)
      | (with_reducible refine LeO.ite ?_ ?_)
      | (with_reducible refine LeO.bind ?_ (fun _ => ?_))
      | exact ih0 _ _ _ _ _
      | exact LeO.none _
      | refine LeO.ite ?_ ?_
      | refine LeO.bind ?_ (fun _ => ?_)
set_option maxHeartbeats 8000000 in
set_option maxRecDepth 100000 in
theorem impl_allWithin.calls (k : Nat) (A0 : Option Addr) (c0 : Nat) (l0 : List Int) (a1 : Int) (a2 : Int) (r : Bool) (w : World) (hr0 : Kd.C (Kd.int .i64) w A0 l0.length l0) (hc0 : l0.length ≤ c0) (h : impl_allWithin.f k l0 a1 a2 = some r) :
    Calls Try.prog 71 #[.slice A0 l0.length c0, .int .i64 a1, .int .i64 a2] w fun e w' => e = .returned (.bool r) ∧ Drawn0 w w' := by
  have HR0 := Aside0.mk hr0
  have HC0 := Aside0.mk hc0
  clear hr0 hc0
  have H : (impl_allWithin.l0 k a1 a2 l0 (l0.length : Int) 0) = some r := h
  clear h
  have H' := Aside0.mk H
  clear H
  go_enter Try.func71, Try.ntmps71
  go_wp2
  go_loopg [11] k (fun kq v11 w' => ∃ (x11_1 : Int), v11 = .int .i64 x11_1 ∧ Aside0 (impl_allWithin.l0 kq a1 a2 l0 (l0.length : Int) x11_1 = some r) ∧ Aside0 (kq ≤ k) ∧ Drawn0 w w')
  case atStart => exact ⟨(0), (by first | rfl | (simp; done) | (simp [*]; done)), H', ⟨Nat.le_refl _⟩, by repeat (first | exact Drawn0.refl _ | apply Drawn0.step)⟩
  case round =>
    clear H'
    try clear p2
    obtain ⟨x11_1, rfl, HA, HK1, ⟨m1, rfl⟩⟩ := hrel
    cases gk with
    | zero => exact absurd HA.out (by simp [impl_allWithin.l0])
    | succ k1 =>
      have H := HA.out
      clear HA
      simp only [impl_allWithin.l0] at H
      by_cases c4 : x11_1 < (l0.length : Int)
      · rw [if_pos c4] at H
        have c4b0 : decide (x11_1 < (l0.length : Int)) = true := decide_eq_true c4
        clear c4
        by_cases c5 : 0 ≤ x11_1
        · rw [if_pos c5] at H
          have c5b0 : decide (0 ≤ x11_1) = true := decide_eq_true c5
          clear c5
          by_cases c6 : x11_1 < (l0.length : Int)
          · rw [if_pos c6] at H
            have c6b0 : decide (x11_1 < (l0.length : Int)) = true := decide_eq_true c6
            clear c6
            replace H := Option.bind_eq_some_iff.mp H
            obtain ⟨t166, A70, H⟩ := H
            replace H : (if t166 = true then (impl_allWithin.l0 k1 a1 a2 l0 (l0.length : Int) (wrap64 (x11_1 + 1))) else (some false)) = some r := H
            have A7 := Aside0.mk A70
            clear A70
            by_cases c8 : t166 = true
            · subst c8
              have H1 : (impl_allWithin.l0 k1 a1 a2 l0 (l0.length : Int) (wrap64 (x11_1 + 1))) = some r := by rw [if_pos rfl] at H; exact H
              clear H
              have H := H1
              clear H1
              have H' := Aside0.mk H
              clear H
              have p165 : 0 ≤ (x11_1 : Int) := of_decide_eq_true (by first | (with_reducible assumption) | assumption)
              have q165 : x11_1 < (l0.length : Int) := of_decide_eq_true (by first | (with_reducible assumption) | assumption)
              obtain ⟨ad165, e165, hx165_0⟩ := Kd.at_int HR0.out x11_1 p165 q165
              cases e165
              replace p165 := eq_true p165
              replace q165 := eq_true q165
              go_wp2_with (first | ((with_reducible refine gate_callee (f := 75) rfl ?_); refine goesL_ (some 18) rfl rfl Try.func75 (by kernel_rfl) rfl #[.int .i64 (rd l0 x11_1), .int .i64 a1, .int .i64 a2] rfl (by (try simp only [List.map_toArray, List.map_cons, List.map_nil]); first | done | rfl | (simp only [List.length_drop, List.length_take]; rfl)) ?_; (with_reducible refine (impl_within.calls (rd l0 x11_1) a1 a2 true _ A7.out).mono ?_); rintro e w' ⟨rfl, ⟨nd, rfl⟩⟩; refine ⟨_, rfl, ?_⟩))
              go_roundg k1
              case measure => have := HK1.out; omega
              case rel => exact ⟨(wrap64 (x11_1 + 1)), (by first | rfl | (simp; done) | (simp [*]; done)), H', ⟨by have := HK1.out; omega⟩, by repeat (first | exact Drawn0.refl _ | apply Drawn0.step)⟩
            · replace c8 := Bool.eq_false_iff.mpr c8
              subst c8
              have H1 : (some false) = some r := by rw [if_neg (show ¬ (false = true) by decide)] at H; exact H
              clear H
              have H := H1
              clear H1
              obtain rfl := Option.some.inj H
              have p165 : 0 ≤ (x11_1 : Int) := of_decide_eq_true (by first | (with_reducible assumption) | assumption)
              have q165 : x11_1 < (l0.length : Int) := of_decide_eq_true (by first | (with_reducible assumption) | assumption)
              obtain ⟨ad165, e165, hx165_0⟩ := Kd.at_int HR0.out x11_1 p165 q165
              cases e165
              replace p165 := eq_true p165
              replace q165 := eq_true q165
              go_wp2_with (first | ((with_reducible refine gate_callee (f := 75) rfl ?_); refine goesL_ (some 18) rfl rfl Try.func75 (by kernel_rfl) rfl #[.int .i64 (rd l0 x11_1), .int .i64 a1, .int .i64 a2] rfl (by (try simp only [List.map_toArray, List.map_cons, List.map_nil]); first | done | rfl | (simp only [List.length_drop, List.length_take]; rfl)) ?_; (with_reducible refine (impl_within.calls (rd l0 x11_1) a1 a2 false _ A7.out).mono ?_); rintro e w' ⟨rfl, ⟨nd, rfl⟩⟩; refine ⟨_, rfl, ?_⟩))
              go_ret
              exact ⟨by first | rfl | (simp; done) | (simp [*]; done), by repeat (first | exact Drawn0.refl _ | apply Drawn0.step)⟩
          · rw [if_neg c6] at H
            exact absurd H (by simp)
        · rw [if_neg c5] at H
          exact absurd H (by simp)
      · rw [if_neg c4] at H
        have c4b0 : decide (x11_1 < (l0.length : Int)) = false := decide_eq_false c4
        clear c4
        obtain rfl := Option.some.inj H
        go_wp2
        go_ret
        exact ⟨by first | rfl | (simp; done) | (simp [*]; done), by repeat (first | exact Drawn0.refl _ | apply Drawn0.step)⟩

end Go.Proofs.Ytdeheflbigggbaa.CM
