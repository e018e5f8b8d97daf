/- Functions that a law of this seat reaches: written by a program of this session (wip/xprint.py), and by hand. -/
import Derived.Test.YtdeheflbigggbaaCRx0
import Derived.Test.YtdeheflbigggbaaCRx2
import Derived.Test.YtdeheflbigggbaaCRx3
namespace Go.Proofs.Ytdeheflbigggbaa.CR
open Go.RowKit Go.Proofs.Ytdeheflbigggbaa.B Go.Proofs.YtdeheflbigggbaaW.PrintWords Go.Proofs.YtdeheflbigggbaaW.PrintLast Go.Proofs.YtdeheflbigggbaaW.PrintMore
attribute [local go_sem] max2_int min2_int max_two min_two max_three min_three max_four min_four   -- for this text's walks alone
set_option linter.unusedVariables false
set_option linter.unusedSimpArgs false

/-! ### spec_l09In_next: function 104 (by hand) -/
/-- The likelihoods of the reference, with the block of their row. -/
def SLikQ (W : World) (B g q : Nat) (lik : List Int) : Prop := B ≤ g ∧ ∃ c, W.heap[g]? = some (.cells #[.slice (some ⟨q, 0, none⟩) lik.length c] 110 (0, 0)) ∧ Kd.R (Kd.int .i64) 3 W B (fun _ => True) (.slice (some ⟨q, 0, none⟩) lik.length c) lik
theorem slikq_of {W : World} {B g : Nat} {lik : List Int} (h : SLikAt W B g lik) (hl : 0 < lik.length) : ∃ q, SLikQ W B g q lik := by
  obtain ⟨hB, v, G, hR⟩ := h
  obtain ⟨q, c, rfl, _⟩ := Kd.R_form hR hl
  exact ⟨q, hB, c, G, hR⟩
theorem slikq_blk {W : World} {B g q : Nat} {lik : List Int} (h : SLikQ W B g q lik) (hl : 0 < lik.length) : ∃ cs, W.heap[q]? = some (.cells cs 3 (0, 0)) ∧ B ≤ q := by
  obtain ⟨hB, c, G, hR⟩ := h
  obtain ⟨q', c', e2, hq0, hq1, cells, hc⟩ := Kd.R_form hR hl
  injection e2 with e2 _ _
  injection e2 with e2
  injection e2 with e2 _ _
  subst e2
  exact ⟨cells, hc, hq0⟩
theorem slikq_cell {W : World} {B g q : Nat} {lik : List Int} (h : SLikQ W B g q lik) (i : Nat) (hi : i < lik.length) : ∃ c, W.cell? ⟨g, 0, none⟩ = some (.slice (some ⟨q, 0, none⟩) lik.length c) ∧ W.cell? ⟨q, i, none⟩ = some (.int .i64 (rd lik i)) ∧ W.frozen? ⟨q, i, none⟩ = false ∧ q < W.heap.size ∧ B ≤ q := by
  obtain ⟨cs, hq, hqB⟩ := slikq_blk h (by omega)
  obtain ⟨hB, c, G, hR⟩ := h
  obtain ⟨hx, hf⟩ := Kd.R_celln 0 hR (i : Int) (by omega) (by omega)
  rw [Int.toNat_natCast] at hx hf
  exact ⟨c, (blk_cell G 0).trans rfl, hx, hf, blk_lt hq, hqB⟩
theorem slikq_set {W : World} {B g q : Nat} {lik : List Int} (h : SLikQ W B g q lik) (hl : 0 < lik.length) (i : Nat) (x : Int) : SLikQ (W.setCell ⟨q, i, none⟩ (.int .i64 x)) B g q (lik.set i x) := by
  obtain ⟨cs, hq, hqB⟩ := slikq_blk h hl
  obtain ⟨hB, c, G, hR⟩ := h
  refine ⟨hB, c, ?_, ?_⟩
  · rw [List.length_set]
    exact blk_far G (blk_ne G hq (by decide)) _
  · have := (Kd.R_putg hR (i : Int) x).1
    rw [Int.toNat_natCast] at this
    rw [List.length_set]
    exact this
theorem slikq_far {W : World} {B g q : Nat} {lik : List Int} (h : SLikQ W B g q lik) {b : Nat} {cs : Array Value} {t : TypeId} (hb : W.heap[b]? = some (.cells cs t (0, 0))) (h1 : 3 ≠ t) (h2 : 110 ≠ t) (i : Nat) (u : Value) : SLikQ (W.setCell ⟨b, i, none⟩ u) B g q lik := by
  obtain ⟨hB, c, G, hR⟩ := h
  exact ⟨hB, c, blk_far G (blk_ne G hb h2) _, Kd.R_set hR hb (fun q hq => by rcases List.mem_singleton.1 hq with rfl; exact h1) i u⟩
/-- The reference's reader of bits, at block r; its likelihoods at block g; its bytes came in by w0. -/
def SDecAt (w0 W : World) (r g q : Nat) (bs : List Int) (s : Dec) : Prop :=
  (SLikQ W w0.heap.size g q s.lik ∧ 0 < s.lik.length) ∧ w0.heap.size ≤ r ∧ ∃ A c, W.heap[r]? = some (.cells #[.pointer (some ⟨g, 0, none⟩), .slice A bs.length c, .int .i64 (s.at_ : Int), .int .i64 s.code, .int .i64 s.width] 112 (0, 0)) ∧
    Kd.C (Kd.int .u8) w0 A bs.length bs
theorem sdec_at {w0 W : World} {r g q : Nat} {bs : List Int} {lik : List Int} {code width : Int} {n : Nat} (h : SDecAt w0 W r g q bs ⟨lik, code, width, n⟩) (m : Nat) : SDecAt w0 (W.setCell ⟨r, 2, none⟩ (.int .i64 (m : Int))) r g q bs ⟨lik, code, width, m⟩ := by
  obtain ⟨L, hB, A, c, G, hC⟩ := h
  refine ⟨⟨slikq_far L.1 G (by decide) (by decide) 2 _, L.2⟩, hB, A, c, ?_, hC⟩
  rw [blk_set G 2]
  rfl
theorem sdec_code {w0 W : World} {r g q : Nat} {bs : List Int} {lik : List Int} {code width : Int} {n : Nat} (h : SDecAt w0 W r g q bs ⟨lik, code, width, n⟩) (x : Int) : SDecAt w0 (W.setCell ⟨r, 3, none⟩ (.int .i64 x)) r g q bs ⟨lik, x, width, n⟩ := by
  obtain ⟨L, hB, A, c, G, hC⟩ := h
  refine ⟨⟨slikq_far L.1 G (by decide) (by decide) 3 _, L.2⟩, hB, A, c, ?_, hC⟩
  rw [blk_set G 3]
  rfl
theorem sdec_width {w0 W : World} {r g q : Nat} {bs : List Int} {lik : List Int} {code width : Int} {n : Nat} (h : SDecAt w0 W r g q bs ⟨lik, code, width, n⟩) (x : Int) : SDecAt w0 (W.setCell ⟨r, 4, none⟩ (.int .i64 x)) r g q bs ⟨lik, code, x, n⟩ := by
  obtain ⟨L, hB, A, c, G, hC⟩ := h
  refine ⟨⟨slikq_far L.1 G (by decide) (by decide) 4 _, L.2⟩, hB, A, c, ?_, hC⟩
  rw [blk_set G 4]
  rfl
theorem sdec_drewN {w0 W : World} {r g q : Nat} {bs : List Int} {s : Dec} (h : SDecAt w0 W r g q bs s) (n : Nat) : SDecAt w0 (W.drewN n) r g q bs s := h
theorem sdec_drew {w0 W : World} {r g q : Nat} {bs : List Int} {s : Dec} (h : SDecAt w0 W r g q bs s) : SDecAt w0 W.drew r g q bs s := h
theorem sdec_cells {w0 W : World} {r g q : Nat} {bs : List Int} {lik : List Int} {code width : Int} {n : Nat} (h : SDecAt w0 W r g q bs ⟨lik, code, width, n⟩) :
    ∃ A c, W.cell? ⟨r, 0, none⟩ = some (.pointer (some ⟨g, 0, none⟩)) ∧ W.cell? ⟨r, 1, none⟩ = some (.slice A bs.length c) ∧ W.cell? ⟨r, 2, none⟩ = some (.int .i64 (n : Int)) ∧ W.cell? ⟨r, 3, none⟩ = some (.int .i64 code) ∧ W.cell? ⟨r, 4, none⟩ = some (.int .i64 width) ∧ W.frozen? ⟨r, 2, none⟩ = false ∧ W.frozen? ⟨r, 3, none⟩ = false ∧ W.frozen? ⟨r, 4, none⟩ = false ∧ w0.heap.size ≤ r ∧ Kd.C (Kd.int .u8) w0 A bs.length bs := by
  obtain ⟨L, hB, A, c, G, hC⟩ := h
  exact ⟨A, c, (blk_cell G 0).trans rfl, (blk_cell G 1).trans rfl, (blk_cell G 2).trans rfl, (blk_cell G 3).trans rfl, (blk_cell G 4).trans rfl, blk_frozen G 2, blk_frozen G 3, blk_frozen G 4, hB, hC⟩
set_option maxHeartbeats 4000000 in
set_option maxRecDepth 100000 in
theorem sNext_calls (r g q : Nat) (bs : List Int) (lik : List Int) (code width : Int) (n : Nat) (w0 W : World) (h : SDecAt w0 W r g q bs ⟨lik, code, width, n⟩) (hb : Below w0.heap.size w0 W) (hbs : BytesOk bs) (hn : n ≤ 1000000000) :
    Calls Try.prog 104 #[.pointer (some ⟨r, 0, none⟩)] W fun e w' => e = .returned (.int .i64 (byteAt bs n)) ∧ SDecAt w0 w' r g q bs ⟨lik, code, width, n + 1⟩ ∧ Below w0.heap.size W w' ∧ KeepBut W w' r (some q) := by
  have HD := Aside0.mk h
  obtain ⟨A, c, h0, h1, h2, h3, h4, f2, f3, f4, hr, hC⟩ := sdec_cells h
  have HR := Aside0.mk hr
  have HB := Aside0.mk hb
  clear h h0 h3 h4 f3 f4 hb
  by_cases hlt : n < bs.length
  · have hli : (n : Int) < (bs.length : Int) := by omega
    have hx0 := hbs _ (List.getElem_mem hlt)
    have HBY := Aside0.mk (show byteAt bs n = bs[n] from by unfold byteAt; rw [if_pos hlt, rd_nat hlt])
    rw [HBY.out]
    clear HBY
    obtain ⟨ad, e, hx⟩ := Kd.at_int hC (n : Int) (by omega) hli
    subst e
    rw [rd_nat hlt, Int.toNat_natCast] at hx
    replace hx := pw_cell_below HB.out hx
    obtain ⟨y, HY⟩ : ∃ y, Aside0 (y = bs[n]) := ⟨_, ⟨rfl⟩⟩
    rw [← HY.out] at hx hx0 ⊢
    obtain ⟨hx0, hx1⟩ := hx0
    clear HY hC hbs
    go_enter Try.func104, Try.ntmps104
    go_wp2
    go_quiet (fail)
    go_wp2
    go_quiet (fail)
    go_wp2
    go_ret
    exact ⟨rfl, sdec_at (sdec_drewN HD.out _) (n + 1), (pw_below_drewN (Below.refl _ _) _).setCell HR.out _, (show KeepBut W (W.drewN _) r (some q) from KeepBut.refl _ _ _).set_ _ _⟩
  · have hli : ¬ (n : Int) < (bs.length : Int) := by omega
    have HBY := Aside0.mk (show byteAt bs n = 0 from by unfold byteAt; rw [if_neg hlt])
    rw [HBY.out]
    clear HBY hC hbs
    go_enter Try.func104, Try.ntmps104
    go_wp2
    go_quiet (fail)
    go_wp2
    go_ret
    exact ⟨rfl, sdec_at (sdec_drewN HD.out _) (n + 1), (pw_below_drewN (Below.refl _ _) _).setCell HR.out _, (show KeepBut W (W.drewN _) r (some q) from KeepBut.refl _ _ _).set_ _ _⟩

/-! ### spec_l09Reader: function 69 (by hand) -/
def SGotReader (w0 W : World) (bs : List Int) (e : Ending) (w' : World) : Prop := ∃ r g q, e = .returned (.pointer (some ⟨r, 0, none⟩)) ∧ SDecAt w0 w' r g q bs (startD bs) ∧ Below w0.heap.size w0 w' ∧ W.heap.size ≤ r ∧ W.heap.size ≤ q ∧ KeepBut W w' r (some q)
theorem slikq_base {W : World} {B B' g q : Nat} {lik : List Int} (h : SLikQ W B g q lik) (hb : B' ≤ B) : SLikQ W B' g q lik := by
  obtain ⟨hB, c, G, hR⟩ := h
  exact ⟨Nat.le_trans hb hB, c, G, Kd.R_lower hR hb⟩
theorem slikq_alloc {W : World} {B g q : Nat} {lik : List Int} (h : SLikQ W B g q lik) (o : Obj) : SLikQ (W.alloc o) B g q lik := by
  obtain ⟨hB, c, G, hR⟩ := h
  have hb := below_alloc (Below.refl W.heap.size W) o
  exact ⟨hB, c, (hb.block g (blk_lt G)).trans G, Kd.R_below hR hb⟩
set_option maxHeartbeats 4000000 in
set_option maxRecDepth 100000 in
theorem sReader_calls (A : Option Addr) (c : Nat) (bs : List Int) (w0 W : World) (hr : Kd.C (Kd.int .u8) w0 A bs.length bs) (hb : Below w0.heap.size w0 W) (hbs : BytesOk bs) :
    Calls Try.prog 69 #[.slice A bs.length c] W (SGotReader w0 W bs) := by
  have HR := Aside0.mk hr
  have HB := Aside0.mk hb
  have HBS := Aside0.mk hbs
  clear hr hb hbs
  go_enter Try.func69, Try.ntmps69
  go_wp2_with (go_at_call 101; (with_reducible refine (sNew_calls _).mono ?_); rintro e w1 ⟨g, rfl, hlk, hb⟩; obtain ⟨q, hlq⟩ := slikq_of hlk (show 0 < likL.length from by decide); have HLK := Aside0.mk (slikq_base hlq (below_size HB.out)); have HRQ := Aside0.mk (show W.heap.size ≤ w1.heap.size ∧ W.heap.size ≤ q from ⟨hb.size, (slikq_blk hlq (show 0 < likL.length from by decide)).choose_spec.2⟩); have HB1 := Aside0.mk (below_step HB.out hb); have HBX := Aside0.mk hb; clear hlk hb hlq)
  obtain ⟨W2, HW2⟩ : ∃ W2, Aside0 (W2 = w1.alloc (.cells #[.pointer (some ⟨g, 0, none⟩), .slice A bs.length c, .int .i64 0, .int .i64 0, .int .i64 4294967295] 112)) := ⟨_, ⟨rfl⟩⟩
  have HD := Aside0.mk (show SDecAt w0 W2 w1.heap.size g q bs ⟨likL, numAt bs 0, 4294967295, 0⟩ from by
    rw [HW2.out]
    exact ⟨⟨slikq_alloc HLK.out _, show 0 < likL.length from by decide⟩, below_size HB1.out, A, c, blk_new w1 _, HR.out⟩)
  have HB2 := Aside0.mk (show Below w0.heap.size w0 W2 from by rw [HW2.out]; exact below_alloc HB1.out _)
  obtain ⟨r, HRR⟩ : ∃ r, Aside0 (r = w1.heap.size) := ⟨_, ⟨rfl⟩⟩
  have HKB := Aside0.mk (show KeepBut W W2 r (some q) from by rw [HW2.out]; exact KeepBut.of_below (below_alloc HBX.out _) _ _)
  rw [← HRR.out] at HD HRQ
  rw [← HW2.out, ← HRR.out]
  clear HW2 HB HB1 HLK HRR HBX
  go_loopg [4] 4 (fun kq v4 w' => ∃ (k : Nat), v4 = .int .i64 (k : Int) ∧ Aside0 (k + kq = 4) ∧ Aside0 (SDecAt w0 w' r g q bs ⟨likL, numAt bs k, 4294967295, k⟩) ∧ Aside0 (Below w0.heap.size w0 w') ∧ Aside0 (KeepBut W w' r (some q)))
  case atStart => exact ⟨0, rfl, ⟨rfl⟩, HD, HB2, HKB⟩
  case round =>
    clear HD HB2 HKB
    obtain ⟨k, rfl, HQ, HD, HB, HKB⟩ := hrel
    by_cases hk : k < 4
    · have hk2 : (k : Int) < 4 := by omega
      have hnr := numAt_range HBS.out k
      have hn1 : numAt bs k ≤ 16777215 := by
        obtain rfl | rfl | rfl | rfl : k = 0 ∨ k = 1 ∨ k = 2 ∨ k = 3 := by omega
        all_goals have := hnr.2; omega
      have hn0 : 0 ≤ numAt bs k := hnr.1
      have hby := byteAt_range HBS.out k
      have HNX := Aside0.mk (show numAt bs (k + 1) = 256 * numAt bs k + byteAt bs k from rfl)
      clear hnr
      obtain ⟨hb0, hb1⟩ := hby
      generalize HM : numAt bs k = m at hn0 hn1 HNX HD
      generalize HY : byteAt bs k = y at hb0 hb1 HNX
      have HY2 := Aside0.mk HY
      have hkk : k ≤ 1000000000 := by omega
      clear HM HY
      go_wp2_with (go_at_call 104; (with_reducible refine (sNext_calls r g q bs likL m 4294967295 k w0 _ HD.out HB.out HBS.out hkk).mono ?_); rintro e W3 ⟨rfl, d3, b3, k3⟩; rw [HY2.out]; have HKB3 := Aside0.mk (KeepBut.trans HKB.out k3 (.inl rfl)); clear k3; have D3 := Aside0.mk d3; have B3 := Aside0.mk (HB.out.trans b3); clear d3 b3; obtain ⟨A3, c3, g0, g1, g2, g3, g4, e2, e3, e4, hr3, -⟩ := sdec_cells D3.out)
      go_roundg (4 - (k + 1))
      case measure => have := HQ.out; omega
      case rel => exact ⟨k + 1, by first | rfl | go_num | simp, ⟨by have := HQ.out; omega⟩, ⟨by rw [HNX.out]; exact sdec_code D3.out _⟩, ⟨B3.out.setCell hr3 _⟩, ⟨HKB3.out.set_ _ _⟩⟩
    · have hk2 : ¬ (k : Int) < 4 := by omega
      have e := HQ.out
      obtain rfl : k = 4 := by omega
      clear e
      go_wp2
      go_ret
      exact ⟨r, g, q, rfl, by rw [← numAt_start]; exact HD.out, HB.out, HRQ.out.1, HRQ.out.2, HKB.out⟩

/-! ### spec_l09In_bit: function 70 (by hand) -/
theorem sdec_lik {w0 W : World} {r g q : Nat} {bs : List Int} {lik : List Int} {code width : Int} {n : Nat} (h : SDecAt w0 W r g q bs ⟨lik, code, width, n⟩) (i : Nat) (x : Int) :
    SDecAt w0 (W.setCell ⟨q, i, none⟩ (.int .i64 x)) r g q bs ⟨lik.set i x, code, width, n⟩ := by
  obtain ⟨L, hB, A, c0, G, hC⟩ := h
  obtain ⟨cs, hq, hqB⟩ := slikq_blk L.1 L.2
  exact ⟨⟨slikq_set L.1 L.2 i x, by show 0 < (lik.set i x).length; rw [List.length_set]; exact L.2⟩, hB, A, c0, blk_far G (blk_ne G hq (by decide)) _, hC⟩
set_option maxHeartbeats 4000000 in
set_option maxRecDepth 100000 in
theorem sBit_calls (r g q : Nat) (bs : List Int) (lik : List Int) (code width : Int) (n ctx : Nat) (w0 W : World) (h : SDecAt w0 W r g q bs ⟨lik, code, width, n⟩) (hs : DecOk ⟨lik, code, width, n⟩) (hc : ctx < 400) (hb : Below w0.heap.size w0 W) (hbs : BytesOk bs) (hn : n ≤ 1000000000) :
    Calls Try.prog 70 #[.pointer (some ⟨r, 0, none⟩), .int .i64 ctx] W fun e w' => e = .returned (.int .i64 (bitD ⟨lik, code, width, n⟩ ctx)) ∧ SDecAt w0 w' r g q bs (stepD bs ⟨lik, code, width, n⟩ ctx) ∧ Below w0.heap.size w0 w' ∧ KeepBut W w' r (some q) := by
  have hc0 : 0 ≤ code := hs.c0
  have hc1 : code ≤ 4294967295 := hs.c1
  have hw0 : 16777216 ≤ width := hs.w0
  have hw1 : width ≤ 4294967295 := hs.w1
  have hlk : LikOk lik := hs.lik
  have hr := lik_rd hlk (c := (ctx : Int)) (by omega) (by omega)
  have hpr := partE_range hlk hw0 (ctx := (ctx : Int)) (by omega) (by omega)
  have HD0 := Aside0.mk h
  have HB := Aside0.mk hb
  have HBS := Aside0.mk hbs
  obtain ⟨A, c, h0, h1, h2, h3, h4, f2, f3, f4, hrB, -⟩ := sdec_cells h
  obtain ⟨d0, k0, hx, hfx, -, -⟩ := slikq_cell h.1.1 ctx (show ctx < lik.length from by rw [hlk.1]; exact hc)
  replace k0 : W.cell? ⟨g, 0, none⟩ = some (.slice (some ⟨q, 0, none⟩) lik.length d0) := k0
  replace hx : W.cell? ⟨q, ctx, none⟩ = some (.int .i64 (rd lik (ctx : Int))) := hx
  have HCL := Aside0.mk (show ctx < lik.length from by rw [hlk.1]; exact hc)
  have hcl1 : (ctx : Int) < (lik.length : Int) := by have := HCL.out; omega
  have hcl2 : ctx < lik.length := HCL.out
  obtain ⟨x, HX⟩ : ∃ x, Aside0 (x = rd lik (ctx : Int)) := ⟨_, ⟨rfl⟩⟩
  rw [← HX.out] at hr hx
  obtain ⟨pt, HPT⟩ : ∃ pt, Aside0 (pt = partE lik width (ctx : Int)) := ⟨_, ⟨rfl⟩⟩
  rw [← HPT.out] at hpr
  have hmul : wrap64 (width / 4096 * x) = pt := by
    have e : width / 4096 * x = pt := by rw [HPT.out, HX.out]; rfl
    rw [e]
    exact w64 (by omega) (by omega)
  have hmul2 : IntKind.i64.wrap (width / 4096 * x) = pt := (i64_w _).trans hmul
  obtain ⟨hr0, hr1⟩ := hr
  obtain ⟨hp0, hp1⟩ := hpr
  clear hlk h hb hbs
  by_cases hcmp : code < pt
  · have HBD := Aside0.mk (show bitD ⟨lik, code, width, n⟩ ctx = 0 from by unfold bitD; simp only []; rw [← HPT.out, if_pos hcmp])
    have HCD := Aside0.mk (show codeD ⟨lik, code, width, n⟩ ctx = code from by unfold codeD; simp only []; rw [← HPT.out, if_pos hcmp])
    have HWD := Aside0.mk (show widthD ⟨lik, code, width, n⟩ ctx = pt from by unfold widthD; simp only []; rw [← HPT.out, if_pos hcmp])
    go_enter Try.func70, Try.ntmps70
    go_wp2
    go_quiet (fail)
    go_wp2_with fail
    obtain ⟨W1, HW1⟩ : ∃ W1, Aside0 (W1 = (W.drewN nq).setCell ⟨r, 4, none⟩ (.int .i64 pt)) := ⟨_, ⟨rfl⟩⟩
    have D1 := Aside0.mk (show SDecAt w0 W1 r g q bs ⟨lik, code, pt, n⟩ from by rw [HW1.out]; exact sdec_width (sdec_drewN HD0.out _) pt)
    have B1 := Aside0.mk (show Below w0.heap.size w0 W1 from by rw [HW1.out]; exact (pw_below_drewN HB.out _).setCell hrB _)
    have K1 := Aside0.mk (show KeepBut W W1 r (some q) from by rw [HW1.out]; exact (show KeepBut W (W.drewN nq) r (some q) from KeepBut.refl _ _ _).set_ _ _)
    rw [← HW1.out]
    clear HW1 h0 h1 h2 h3 h4 f2 f3 f4 k0 hx hfx
    obtain ⟨A1, c1, h0, h1, h2, h3, h4, f2, f3, f4, -, -⟩ := sdec_cells D1.out
    obtain ⟨d1, k0, hx, hfx, hql, hqB⟩ := slikq_cell D1.out.1.1 ctx HCL.out
    have HX2 := Aside0.mk (show W1.cell? ⟨g, 0, none⟩ = some (.slice (some ⟨q, 0, none⟩) lik.length d1) from k0)
    replace hx : W1.cell? ⟨q, ctx, none⟩ = some (.int .i64 (rd lik (ctx : Int))) := hx
    rw [← HX.out] at hx
    refine (sLearn_calls g q d1 lik.length ctx x 0 _ k0 hx hfx hr0 hr1 HCL.out).mono ?_
    rintro e w' ⟨rfl, ⟨nl, rfl⟩⟩
    obtain ⟨W2, HW2⟩ : ∃ W2, Aside0 (W2 = (W1.setCell ⟨q, ctx, none⟩ (.int .i64 (learnP x 0))).drewN nl) := ⟨_, ⟨rfl⟩⟩
    have D2 := Aside0.mk (show SDecAt w0 W2 r g q bs ⟨learnL lik ctx 0, code, pt, n⟩ from by
      rw [HW2.out]
      have := sdec_lik D1.out ctx (learnP x 0)
      rw [HX.out] at this ⊢
      exact sdec_drewN this _)
    have B2 := Aside0.mk (show Below w0.heap.size w0 W2 from by rw [HW2.out]; exact pw_below_drewN (B1.out.setCell hqB _) _)
    have K2 := Aside0.mk (show KeepBut W W2 r (some q) from by rw [HW2.out]; exact keep_row K1.out _ _)
    rw [← HW2.out]
    clear HW2 h0 h1 h2 h3 h4 f2 f3 f4 D1 B1 K1 k0 hx hfx HX2 hql hqB
    go_wp2
    obtain ⟨A2, c2, h0, h1, h2, h3, h4, f2, f3, f4, -, -⟩ := sdec_cells D2.out
    by_cases hsm : pt < 16777216
    · have HE := Aside0.mk (show stepD bs ⟨lik, code, width, n⟩ ctx = ⟨learnL lik ctx 0, code % 16777216 * 256 + byteAt bs n, pt * 256, n + 1⟩ from by
        unfold stepD
        rw [HWD.out, HBD.out, HCD.out, if_pos hsm])
      have hby := byteAt_range HBS.out n
      obtain ⟨y, HY⟩ : ∃ y, Aside0 (byteAt bs n = y) := ⟨_, ⟨rfl⟩⟩
      rw [HY.out] at hby HE
      obtain ⟨hy0, hy1⟩ := hby
      have hq0 : 0 ≤ code % 16777216 := by omega
      have hq1 : code % 16777216 ≤ 16777215 := by omega
      have hq2 : 16777216 ≤ 256 * pt := by omega
      have hq3 : 256 * pt ≤ 4294967296 := by omega
      refine wp_loop_rounds 2 ?_
      rw [rounds_succ]
      go_wp2_with (go_at_call 104; (with_reducible refine (sNext_calls r g q bs (learnL lik ctx 0) (code) (pt) n w0 _ D2.out B2.out HBS.out hn).mono ?_); rintro e W3 ⟨rfl, d3, b3, k3⟩; rw [HY.out]; have D3 := Aside0.mk d3; have K3 := Aside0.mk (KeepBut.trans K2.out k3 (.inl rfl)); clear k3; have B3 := Aside0.mk (B2.out.trans b3); clear d3 b3; obtain ⟨A3, c3, g0, g1, g2, g3, g4, e2, e3, e4, -, -⟩ := sdec_cells D3.out)
      rw [rounds_succ]
      go_wp2
      go_ret
      exact ⟨by rw [HBD.out] <;> rfl, by rw [HE.out, Int.mul_comm (pt) 256]; exact sdec_width (sdec_code D3.out _) _, (B3.out.setCell hrB _).setCell hrB _, (K3.out.set_ _ _).set_ _ _⟩
    · have HE := Aside0.mk (show stepD bs ⟨lik, code, width, n⟩ ctx = ⟨learnL lik ctx 0, code, pt, n⟩ from by
        unfold stepD
        rw [HWD.out, HBD.out, HCD.out, if_neg hsm])
      have hq2 : 16777216 ≤ pt := by omega
      refine wp_loop_rounds 1 ?_
      rw [rounds_succ]
      go_wp2
      go_ret
      exact ⟨by rw [HBD.out] <;> rfl, by rw [HE.out]; exact D2.out, B2.out, K2.out⟩
  · have HBD := Aside0.mk (show bitD ⟨lik, code, width, n⟩ ctx = 1 from by unfold bitD; simp only []; rw [← HPT.out, if_neg hcmp])
    have HCD := Aside0.mk (show codeD ⟨lik, code, width, n⟩ ctx = code - pt from by unfold codeD; simp only []; rw [← HPT.out, if_neg hcmp])
    have HWD := Aside0.mk (show widthD ⟨lik, code, width, n⟩ ctx = width - pt from by unfold widthD; simp only []; rw [← HPT.out, if_neg hcmp])
    have hge : pt ≤ code := by omega
    go_enter Try.func70, Try.ntmps70
    go_wp2
    go_quiet (fail)
    go_wp2_with fail
    obtain ⟨W1, HW1⟩ : ∃ W1, Aside0 (W1 = ((W.drewN nq).setCell ⟨r, 3, none⟩ (.int .i64 (code - pt))).setCell ⟨r, 4, none⟩ (.int .i64 (width - pt))) := ⟨_, ⟨rfl⟩⟩
    have D1 := Aside0.mk (show SDecAt w0 W1 r g q bs ⟨lik, (code - pt), (width - pt), n⟩ from by rw [HW1.out]; exact sdec_width (sdec_code (sdec_drewN HD0.out _) _) _)
    have B1 := Aside0.mk (show Below w0.heap.size w0 W1 from by rw [HW1.out]; exact ((pw_below_drewN HB.out _).setCell hrB _).setCell hrB _)
    have K1 := Aside0.mk (show KeepBut W W1 r (some q) from by rw [HW1.out]; exact ((show KeepBut W (W.drewN nq) r (some q) from KeepBut.refl _ _ _).set_ _ _).set_ _ _)
    rw [← HW1.out]
    clear HW1 h0 h1 h2 h3 h4 f2 f3 f4 k0 hx hfx
    obtain ⟨A1, c1, h0, h1, h2, h3, h4, f2, f3, f4, -, -⟩ := sdec_cells D1.out
    obtain ⟨d1, k0, hx, hfx, hql, hqB⟩ := slikq_cell D1.out.1.1 ctx HCL.out
    have HX2 := Aside0.mk (show W1.cell? ⟨g, 0, none⟩ = some (.slice (some ⟨q, 0, none⟩) lik.length d1) from k0)
    replace hx : W1.cell? ⟨q, ctx, none⟩ = some (.int .i64 (rd lik (ctx : Int))) := hx
    rw [← HX.out] at hx
    refine (sLearn_calls g q d1 lik.length ctx x 1 _ k0 hx hfx hr0 hr1 HCL.out).mono ?_
    rintro e w' ⟨rfl, ⟨nl, rfl⟩⟩
    obtain ⟨W2, HW2⟩ : ∃ W2, Aside0 (W2 = (W1.setCell ⟨q, ctx, none⟩ (.int .i64 (learnP x 1))).drewN nl) := ⟨_, ⟨rfl⟩⟩
    have D2 := Aside0.mk (show SDecAt w0 W2 r g q bs ⟨learnL lik ctx 1, (code - pt), (width - pt), n⟩ from by
      rw [HW2.out]
      have := sdec_lik D1.out ctx (learnP x 1)
      rw [HX.out] at this ⊢
      exact sdec_drewN this _)
    have B2 := Aside0.mk (show Below w0.heap.size w0 W2 from by rw [HW2.out]; exact pw_below_drewN (B1.out.setCell hqB _) _)
    have K2 := Aside0.mk (show KeepBut W W2 r (some q) from by rw [HW2.out]; exact keep_row K1.out _ _)
    rw [← HW2.out]
    clear HW2 h0 h1 h2 h3 h4 f2 f3 f4 D1 B1 K1 k0 hx hfx HX2 hql hqB
    go_wp2
    obtain ⟨A2, c2, h0, h1, h2, h3, h4, f2, f3, f4, -, -⟩ := sdec_cells D2.out
    by_cases hsm : (width - pt) < 16777216
    · have HE := Aside0.mk (show stepD bs ⟨lik, code, width, n⟩ ctx = ⟨learnL lik ctx 1, (code - pt) % 16777216 * 256 + byteAt bs n, (width - pt) * 256, n + 1⟩ from by
        unfold stepD
        rw [HWD.out, HBD.out, HCD.out, if_pos hsm])
      have hby := byteAt_range HBS.out n
      obtain ⟨y, HY⟩ : ∃ y, Aside0 (byteAt bs n = y) := ⟨_, ⟨rfl⟩⟩
      rw [HY.out] at hby HE
      obtain ⟨hy0, hy1⟩ := hby
      have hq0 : 0 ≤ (code - pt) % 16777216 := by omega
      have hq1 : (code - pt) % 16777216 ≤ 16777215 := by omega
      have hq2 : 16777216 ≤ 256 * (width - pt) := by omega
      have hq3 : 256 * (width - pt) ≤ 4294967296 := by omega
      refine wp_loop_rounds 2 ?_
      rw [rounds_succ]
      go_wp2_with (go_at_call 104; (with_reducible refine (sNext_calls r g q bs (learnL lik ctx 1) ((code - pt)) ((width - pt)) n w0 _ D2.out B2.out HBS.out hn).mono ?_); rintro e W3 ⟨rfl, d3, b3, k3⟩; rw [HY.out]; have D3 := Aside0.mk d3; have K3 := Aside0.mk (KeepBut.trans K2.out k3 (.inl rfl)); clear k3; have B3 := Aside0.mk (B2.out.trans b3); clear d3 b3; obtain ⟨A3, c3, g0, g1, g2, g3, g4, e2, e3, e4, -, -⟩ := sdec_cells D3.out)
      rw [rounds_succ]
      go_wp2
      go_ret
      exact ⟨by rw [HBD.out] <;> rfl, by rw [HE.out, Int.mul_comm ((width - pt)) 256]; exact sdec_width (sdec_code D3.out _) _, (B3.out.setCell hrB _).setCell hrB _, (K3.out.set_ _ _).set_ _ _⟩
    · have HE := Aside0.mk (show stepD bs ⟨lik, code, width, n⟩ ctx = ⟨learnL lik ctx 1, (code - pt), (width - pt), n⟩ from by
        unfold stepD
        rw [HWD.out, HBD.out, HCD.out, if_neg hsm])
      have hq2 : 16777216 ≤ (width - pt) := by omega
      refine wp_loop_rounds 1 ?_
      rw [rounds_succ]
      go_wp2
      go_ret
      exact ⟨by rw [HBD.out] <;> rfl, by rw [HE.out]; exact D2.out, B2.out, K2.out⟩
theorem sdec_grown {w0 W W1 : World} {r g q : Nat} {bs : List Int} {s : Dec} {B : Nat} {v : Value} {ys : List Int} (h : SDecAt w0 W r g q bs s) (hR : Kd.R (Kd.int .i64) 3 W B (fun j => j ≠ r ∧ j ≠ q) v ys) (hg : W.grownBy W1 v.ownBlock) : SDecAt w0 W1 r g q bs s := by
  obtain ⟨L, hB, A, c, G, h2⟩ := h
  obtain ⟨cs, hq, hqB⟩ := slikq_blk L.1 L.2
  have hqv : some q ≠ v.ownBlock := fun e => (hR.1 q e.symm).2 rfl
  obtain ⟨⟨gB, cg, GG, RR⟩, Ll⟩ := L
  refine ⟨⟨⟨gB, cg, blk_grown GG hg (Kd.R_ne hR GG (by decide)), ?_⟩, Ll⟩, hB, A, c, blk_grown G hg (Kd.R_ne hR G (by decide)), h2⟩
  obtain ⟨f1, cells, f2, f3⟩ := RR
  exact Kd.R_mono (Kd.R_step (Kd.R_bound (ok := fun j => j = q) ⟨fun k hk => by injection hk with hk; exact hk.symm, cells, f2, f3⟩) (fun k hk hlt => hg.block k hlt (by rw [hk.1]; exact hqv))) (fun _ _ => trivial)
theorem sout_keep {W W1 : World} {r q e B : Nat} {v : Value} {ys : List Int} (h : Kd.R (Kd.int .i64) e W B (fun j => j ≠ r ∧ j ≠ q) v ys) (hk : KeepBut W W1 r (some q)) : Kd.R (Kd.int .i64) e W1 B (fun j => j ≠ r ∧ j ≠ q) v ys :=
  Kd.R_step h (fun k ho hlt => hk.2 k hlt ho.1 (fun e => ho.2 (Option.some.inj e)))
theorem sdec_above {w0 W : World} {r g q : Nat} {bs : List Int} {s : Dec} (h : SDecAt w0 W r g q bs s) : ∀ k, W.heap.size ≤ k → k ≠ r ∧ k ≠ q := by
  obtain ⟨L, hB, A, c, G, h2⟩ := h
  obtain ⟨cs, hq, hqB⟩ := slikq_blk L.1 L.2
  have := blk_lt hq
  have := blk_lt G
  omega
theorem lit_int0 (w : World) (e : Nat) : Kd.R (Kd.int .i64) e (w.alloc (.cells #[] e)) w.heap.size (fun j => j = w.heap.size) (.slice (some ⟨w.heap.size, 0, none⟩) 0 0) [] := by
  have := World.ownsRow_lit (base := w.heap.size) (e := e) (size := 1) w #[] 0 (Nat.le_refl _) (by decide) (by simp)
  exact ⟨fun k hk => by injection hk with hk; exact hk.symm, [], this, Reps.none _ _⟩

/-! ### spec_l10Num: function 74 (by hand) -/
theorem sBit_x (r g p : Nat) (bs : List Int) (s : Dec) (x : Int) (w0 W : World) (h : SDecAt w0 W r g p bs s) (hs : DecOk s) (h0 : 0 ≤ x) (h1 : x < 400) (hb : Below w0.heap.size w0 W) (hbs : BytesOk bs) (ha : s.at_ ≤ 1000000000) :
    Calls Try.prog 70 #[.pointer (some ⟨r, 0, none⟩), .int .i64 x] W fun e w' => e = .returned (.int .i64 (bitD s x)) ∧ SDecAt w0 w' r g p bs (stepD bs s x) ∧ Below w0.heap.size w0 w' ∧ KeepBut W w' r (some p) := by
  obtain ⟨lik, code, width, n⟩ := s
  obtain ⟨c, rfl⟩ := Int.eq_ofNat_of_zero_le h0
  exact sBit_calls r g p bs lik code width n c w0 W h hs (by omega) hb hbs ha
set_option maxHeartbeats 4000000 in
set_option maxRecDepth 100000 in
theorem sNum_calls (r g p : Nat) (bs : List Int) (s : Dec) (base : Int) (w0 W : World) (h : SDecAt w0 W r g p bs s) (hs : DecOk s) (h0 : 0 ≤ base) (h1 : base ≤ 380) (hb : Below w0.heap.size w0 W) (hbs : BytesOk bs) (hat : s.at_ ≤ 900000000) :
    Calls Try.prog 74 #[.pointer (some ⟨r, 0, none⟩), .int .i64 base] W fun e w' => e = .returned (.int .i64 (numD bs base s).1) ∧ SDecAt w0 w' r g p bs (numD bs base s).2 ∧ Below w0.heap.size w0 w' ∧ KeepBut W w' r (some p) := by
  have D0 := Aside0.mk h
  have B0 := Aside0.mk hb
  have HBS := Aside0.mk hbs
  have S0 := Aside0.mk hs
  have K0 := Aside0.mk (KeepBut.refl W r (some p))
  have T0 := Aside0.mk hat
  clear h hb hbs hs hat
  by_cases hz : bitD s base = 1
  · have HN := Aside0.mk (show numD bs base s = (0, stepD bs s base) from by unfold numD; rw [if_pos hz])
    rw [HN.out]
    go_enter Try.func74, Try.ntmps74
    go_wp2_with (go_at_call 70; (with_reducible refine (sBit_x r g p bs s base w0 _ D0.out S0.out h0 (by omega) B0.out HBS.out (Nat.le_trans T0.out (by decide))).mono ?_); rintro e W1 ⟨rfl, d, b, k⟩; rw [hz]; have D1 := Aside0.mk d; have B1 := Aside0.mk b; have K1 := Aside0.mk (KeepBut.trans K0.out k (.inl rfl)); clear d b k)
    go_ret
    exact ⟨rfl, D1.out, B1.out, K1.out⟩
  · have hz0 : bitD s base = 0 := (bit01 s base).resolve_right hz
    clear hz
    obtain ⟨s1, HS1⟩ : ∃ t, Aside0 (t = stepD bs s base) := ⟨_, ⟨rfl⟩⟩
    have S1 := Aside0.mk (show DecOk s1 from by rw [HS1.out]; exact stepD_ok HBS.out S0.out h0 (by omega))
    have T1 := Aside0.mk (show s1.at_ ≤ 900000001 from by rw [HS1.out]; exact Nat.le_trans (stepD_at bs s base).2 (Nat.succ_le_succ T0.out))
    obtain ⟨sg, HSG⟩ : ∃ t, Aside0 (t = bitD s1 (base + 1)) := ⟨_, ⟨rfl⟩⟩
    have hsg : sg = 0 ∨ sg = 1 := by rw [HSG.out]; exact bit01 _ _
    obtain ⟨s2, HS2⟩ : ∃ t, Aside0 (t = stepD bs s1 (base + 1)) := ⟨_, ⟨rfl⟩⟩
    have S2 := Aside0.mk (show DecOk s2 from by rw [HS2.out]; exact stepD_ok HBS.out S1.out (by omega) (by omega))
    have T2 := Aside0.mk (show s2.at_ ≤ 900000002 from by rw [HS2.out]; exact Nat.le_trans (stepD_at bs s1 (base + 1)).2 (Nat.succ_le_succ T1.out))
    have HN := Aside0.mk (show numD bs base s = (if sg = 1 then -(magD bs (base + 18) ((clsD bs base 14 s2).1 - 1) 1 (clsD bs base 14 s2).2).1 else (magD bs (base + 18) ((clsD bs base 14 s2).1 - 1) 1 (clsD bs base 14 s2).2).1, (magD bs (base + 18) ((clsD bs base 14 s2).1 - 1) 1 (clsD bs base 14 s2).2).2) from by unfold numD; rw [hz0, if_neg (by decide), HS2.out, HSG.out, HS1.out])
    go_enter Try.func74, Try.ntmps74
    go_wp2_with (first
      | (go_at_call 70; (with_reducible refine (sBit_x r g p bs s base w0 _ D0.out S0.out h0 (by omega) B0.out HBS.out (Nat.le_trans T0.out (by decide))).mono ?_); rintro e W1 ⟨rfl, d, b, k⟩; rw [hz0]; rw [← HS1.out] at d; have D1 := Aside0.mk d; have B1 := Aside0.mk b; have K1 := Aside0.mk (KeepBut.trans K0.out k (.inl rfl)); clear d b k)
      | (go_at_call 70; (with_reducible refine (sBit_x r g p bs s1 (base + 1) w0 _ D1.out S1.out (by omega) (by omega) B1.out HBS.out (Nat.le_trans T1.out (by decide))).mono ?_); rintro e W2 ⟨rfl, d, b, k⟩; rw [← HSG.out]; rw [← HS2.out] at d; have D2 := Aside0.mk d; have B2 := Aside0.mk b; have K2 := Aside0.mk (KeepBut.trans K1.out k (.inl rfl)); clear d b k))
    clear hz0 HS1 HS2 HSG S0 S1 T0 T1
    go_loopg [6] 14 (fun kq vc w' => ∃ (d : Nat) (t : Dec), vc = .int .i64 (((15 - d : Nat) : Nat) : Int) ∧ Aside0 (d = kq ∧ d ≤ 14) ∧ Aside0 (DecOk t ∧ t.at_ + d ≤ 900000020) ∧ Aside0 (clsD bs base d t = clsD bs base 14 s2) ∧ Aside0 (SDecAt w0 w' r g p bs t) ∧ Aside0 (Below w0.heap.size w0 w') ∧ Aside0 (KeepBut W w' r (some p)))
    case atStart => exact ⟨14, s2, rfl, ⟨rfl, Nat.le_refl _⟩, ⟨S2.out, by have := T2.out; omega⟩, ⟨rfl⟩, D2, B2, K2⟩
    case round =>
      clear D2 B2 K2 S2 T2
      obtain ⟨d, t, rfl, HQ, HT, HC, D3, B3, K3⟩ := hrel
      obtain ⟨CN, HCN⟩ : ∃ CN : Nat, Aside0 (CN = 15 - d) := ⟨_, ⟨rfl⟩⟩
      rw [← HCN.out]
      have hc1 : 1 ≤ CN := by have := HCN.out; have := HQ.out.2; omega
      have hc15 : CN ≤ 15 := by have := HCN.out; omega
      have hci1 : 1 ≤ (CN : Int) := by omega
      have hci15 : (CN : Int) ≤ 15 := by omega
      rcases Nat.eq_zero_or_pos d with hd | hd
      · have hcl : ¬ (CN : Int) < 15 := by have := HCN.out; omega
        have HM := Aside0.mk (show clsD bs base 14 s2 = (CN, t) from by rw [← HC.out, HCN.out, hd]; rfl)
        have HT' := Aside0.mk (show DecOk t ∧ t.at_ ≤ 900000020 from ⟨HT.out.1, by have := HT.out.2; omega⟩)
        clear HC HT hd HQ HCN
        go_wp2
        have HNN := Aside0.mk (show numD bs base s = (if sg = 1 then -(magD bs (base + 18) (CN - 1) 1 t).1 else (magD bs (base + 18) (CN - 1) 1 t).1, (magD bs (base + 18) (CN - 1) 1 t).2) from by rw [HN.out, HM.out])
        clear HN HM
        go_loopg [7, 8] (CN - 1) (fun kq vn vi w' => ∃ (i : Nat) (n : Int) (t2 : Dec), vn = .int .i64 n ∧ vi = .int .i64 ((i + 1 : Nat) : Int) ∧ Aside0 (i + kq = CN - 1 ∧ 1 ≤ n ∧ n < 2 ^ (i + 1)) ∧ Aside0 (DecOk t2 ∧ t2.at_ ≤ 900000020 + i) ∧ Aside0 (magD bs (base + 18) (CN - 1 - i) n t2 = magD bs (base + 18) (CN - 1) 1 t) ∧ Aside0 (SDecAt w0 w' r g p bs t2) ∧ Aside0 (Below w0.heap.size w0 w') ∧ Aside0 (KeepBut W w' r (some p)))
        case atStart => exact ⟨0, 1, t, rfl, rfl, ⟨by omega, by decide, by decide⟩, ⟨HT'.out.1, HT'.out.2⟩, ⟨rfl⟩, D3, B3, K3⟩
        case round =>
          clear D3 B3 K3 HT'
          obtain ⟨i, n, t2, rfl, rfl, HQ2, HT2, HM2, D5, B5, K5⟩ := hrel
          by_cases hi : ((i + 1 : Nat) : Int) < (CN : Int)
          · have hn1 : 1 ≤ n := HQ2.out.2.1
            have hn2 : n < 32768 := Int.lt_of_lt_of_le HQ2.out.2.2 (pow2_le (by omega))
            obtain ⟨y, HY⟩ : ∃ y, Aside0 (y = bitD t2 (base + 18)) := ⟨_, ⟨rfl⟩⟩
            have hy : y = 0 ∨ y = 1 := by rw [HY.out]; exact bit01 _ _
            have hy0 : 0 ≤ y := by omega
            have hy1 : y ≤ 1 := by omega
            have HM3 := Aside0.mk (show magD bs (base + 18) (CN - 1 - (i + 1)) (2 * n + y) (stepD bs t2 (base + 18)) = magD bs (base + 18) (CN - 1) 1 t from by rw [← HM2.out, HY.out, show CN - 1 - i = (CN - 1 - (i + 1)) + 1 from by omega]; rfl)
            have HS6 := Aside0.mk (show DecOk (stepD bs t2 (base + 18)) from stepD_ok HBS.out HT2.out.1 (by omega) (by omega))
            have HT6 := Aside0.mk (show (stepD bs t2 (base + 18)).at_ ≤ 900000020 + (i + 1) from by have := (stepD_at bs t2 (base + 18)).2; have := HT2.out.2; omega)
            have HP := Aside0.mk (pow2_step i)
            clear hy HM2
            go_wp2_with (go_at_call 70; (with_reducible refine (sBit_x r g p bs t2 (base + 18) w0 _ D5.out HT2.out.1 (by omega) (by omega) B5.out HBS.out (by have := HT2.out.2; omega)).mono ?_); rintro e W6 ⟨rfl, d, b, k⟩; rw [← HY.out]; have D6 := Aside0.mk d; have B6 := Aside0.mk b; have K6 := Aside0.mk (KeepBut.trans K5.out k (.inl rfl)); clear d b k)
            go_roundg (CN - 1 - (i + 1))
            case measure => have := HQ2.out.1; omega
            case rel => exact ⟨i + 1, 2 * n + y, _, rfl, by first | rfl | go_num | simp, ⟨by have := HQ2.out.1; omega, by omega, by rw [HP.out]; have := HQ2.out.2.2; omega⟩, ⟨HS6.out, HT6.out⟩, HM3, D6, B6, K6⟩
          · have HEQ := Aside0.mk (show magD bs (base + 18) (CN - 1) 1 t = (n, t2) from by rw [← HM2.out, show CN - 1 - i = 0 from by have := HQ2.out.1; omega]; rfl)
            have HN5 := Aside0.mk (show numD bs base s = (if sg = 1 then -n else n, t2) from by rw [HNN.out, HEQ.out])
            have hn1 : 1 ≤ n := HQ2.out.2.1
            have hn2 : n < 65536 := Int.lt_of_lt_of_le HQ2.out.2.2 (Int.le_trans (pow2_le (by have := HQ2.out.1; omega)) (by decide))
            clear HNN HEQ HM2
            rcases hsg with hsg | hsg
            · subst hsg
              go_wp2
              go_ret
              exact ⟨by rw [HN5.out] <;> rfl, by rw [HN5.out]; exact D5.out, B5.out, K5.out⟩
            · subst hsg
              go_wp2
              go_ret
              exact ⟨by rw [HN5.out] <;> rfl, by rw [HN5.out]; exact D5.out, B5.out, K5.out⟩
      · obtain ⟨e, rfl⟩ : ∃ e, d = e + 1 := ⟨d - 1, by omega⟩
        have hcl : (CN : Int) < 15 := by have := HCN.out; have := HQ.out.2; omega
        have HX := Aside0.mk (show clsD bs base 14 s2 = if bitD t (base + 1 + (CN : Int)) = 1 then clsD bs base e (stepD bs t (base + 1 + (CN : Int))) else (CN, stepD bs t (base + 1 + (CN : Int))) from by rw [← HC.out, show CN = 14 - e from by have := HCN.out; omega]; rfl)
        have HV := Aside0.mk (show (((15 - e : Nat) : Nat) : Int) = (CN : Int) + 1 from by have := HCN.out; have := HQ.out.2; omega)
        have hT := (stepD_at bs t (base + 1 + (CN : Int))).2
        have HS4 := Aside0.mk (show DecOk (stepD bs t (base + 1 + (CN : Int))) from stepD_ok HBS.out HT.out.1 (by omega) (by omega))
        have HT4 := Aside0.mk (show (stepD bs t (base + 1 + (CN : Int))).at_ + e ≤ 900000020 from by have := HT.out.2; omega)
        clear hT hd HC HCN
        by_cases hbit : bitD t (base + 1 + (CN : Int)) = 1
        · have HX1 := Aside0.mk (show clsD bs base e (stepD bs t (base + 1 + (CN : Int))) = clsD bs base 14 s2 from by rw [HX.out, if_pos hbit])
          clear HX
          go_wp2_with (go_at_call 70; (with_reducible refine (sBit_x r g p bs t (base + 1 + (CN : Int)) w0 _ D3.out HT.out.1 (by omega) (by omega) B3.out HBS.out (by have := HT.out.2; omega)).mono ?_); rintro e W4 ⟨rfl, d, b, k⟩; rw [hbit]; have D4 := Aside0.mk d; have B4 := Aside0.mk b; have K4 := Aside0.mk (KeepBut.trans K3.out k (.inl rfl)); clear d b k)
          go_roundg e
          case measure => have := HQ.out.1; omega
          case rel => exact ⟨e, _, by rw [HV.out], ⟨rfl, by have := HQ.out.2; omega⟩, ⟨HS4.out, HT4.out⟩, HX1, D4, B4, K4⟩
        · have HM := Aside0.mk (show clsD bs base 14 s2 = (CN, stepD bs t (base + 1 + (CN : Int))) from by rw [HX.out, if_neg hbit])
          have hbit0 := (bit01 t (base + 1 + (CN : Int))).resolve_right hbit
          clear hbit HX HV
          go_wp2_with (go_at_call 70; (with_reducible refine (sBit_x r g p bs t (base + 1 + (CN : Int)) w0 _ D3.out HT.out.1 (by omega) (by omega) B3.out HBS.out (by have := HT.out.2; omega)).mono ?_); rintro e W4 ⟨rfl, d, b, k⟩; rw [hbit0]; have D4 := Aside0.mk d; have B4 := Aside0.mk b; have K4 := Aside0.mk (KeepBut.trans K3.out k (.inl rfl)); clear d b k)
          have HT' := Aside0.mk (show DecOk (stepD bs t (base + 1 + (CN : Int))) ∧ (stepD bs t (base + 1 + (CN : Int))).at_ ≤ 900000020 from ⟨HS4.out, by have := HT4.out; omega⟩)
          obtain ⟨tc, HTC⟩ : ∃ tc, Aside0 (tc = stepD bs t (base + 1 + (CN : Int))) := ⟨_, ⟨rfl⟩⟩
          rw [← HTC.out] at HM D4 HT'
          clear HTC HS4 HT4 HT D3 B3 K3 HQ hbit0
          have HNN := Aside0.mk (show numD bs base s = (if sg = 1 then -(magD bs (base + 18) (CN - 1) 1 tc).1 else (magD bs (base + 18) (CN - 1) 1 tc).1, (magD bs (base + 18) (CN - 1) 1 tc).2) from by rw [HN.out, HM.out])
          clear HN HM
          go_loopg [7, 8] (CN - 1) (fun kq vn vi w' => ∃ (i : Nat) (n : Int) (t2 : Dec), vn = .int .i64 n ∧ vi = .int .i64 ((i + 1 : Nat) : Int) ∧ Aside0 (i + kq = CN - 1 ∧ 1 ≤ n ∧ n < 2 ^ (i + 1)) ∧ Aside0 (DecOk t2 ∧ t2.at_ ≤ 900000020 + i) ∧ Aside0 (magD bs (base + 18) (CN - 1 - i) n t2 = magD bs (base + 18) (CN - 1) 1 tc) ∧ Aside0 (SDecAt w0 w' r g p bs t2) ∧ Aside0 (Below w0.heap.size w0 w') ∧ Aside0 (KeepBut W w' r (some p)))
          case atStart => exact ⟨0, 1, tc, rfl, rfl, ⟨by omega, by decide, by decide⟩, ⟨HT'.out.1, HT'.out.2⟩, ⟨rfl⟩, D4, B4, K4⟩
          case round =>
            clear D4 B4 K4 HT'
            obtain ⟨i, n, t2, rfl, rfl, HQ2, HT2, HM2, D5, B5, K5⟩ := hrel
            by_cases hi : ((i + 1 : Nat) : Int) < (CN : Int)
            · have hn1 : 1 ≤ n := HQ2.out.2.1
              have hn2 : n < 32768 := Int.lt_of_lt_of_le HQ2.out.2.2 (pow2_le (by omega))
              obtain ⟨y, HY⟩ : ∃ y, Aside0 (y = bitD t2 (base + 18)) := ⟨_, ⟨rfl⟩⟩
              have hy : y = 0 ∨ y = 1 := by rw [HY.out]; exact bit01 _ _
              have hy0 : 0 ≤ y := by omega
              have hy1 : y ≤ 1 := by omega
              have HM3 := Aside0.mk (show magD bs (base + 18) (CN - 1 - (i + 1)) (2 * n + y) (stepD bs t2 (base + 18)) = magD bs (base + 18) (CN - 1) 1 tc from by rw [← HM2.out, HY.out, show CN - 1 - i = (CN - 1 - (i + 1)) + 1 from by omega]; rfl)
              have HS6 := Aside0.mk (show DecOk (stepD bs t2 (base + 18)) from stepD_ok HBS.out HT2.out.1 (by omega) (by omega))
              have HT6 := Aside0.mk (show (stepD bs t2 (base + 18)).at_ ≤ 900000020 + (i + 1) from by have := (stepD_at bs t2 (base + 18)).2; have := HT2.out.2; omega)
              have HP := Aside0.mk (pow2_step i)
              clear hy HM2
              go_wp2_with (go_at_call 70; (with_reducible refine (sBit_x r g p bs t2 (base + 18) w0 _ D5.out HT2.out.1 (by omega) (by omega) B5.out HBS.out (by have := HT2.out.2; omega)).mono ?_); rintro e W6 ⟨rfl, d, b, k⟩; rw [← HY.out]; have D6 := Aside0.mk d; have B6 := Aside0.mk b; have K6 := Aside0.mk (KeepBut.trans K5.out k (.inl rfl)); clear d b k)
              go_roundg (CN - 1 - (i + 1))
              case measure => have := HQ2.out.1; omega
              case rel => exact ⟨i + 1, 2 * n + y, _, rfl, by first | rfl | go_num | simp, ⟨by have := HQ2.out.1; omega, by omega, by rw [HP.out]; have := HQ2.out.2.2; omega⟩, ⟨HS6.out, HT6.out⟩, HM3, D6, B6, K6⟩
            · have HEQ := Aside0.mk (show magD bs (base + 18) (CN - 1) 1 tc = (n, t2) from by rw [← HM2.out, show CN - 1 - i = 0 from by have := HQ2.out.1; omega]; rfl)
              have HN5 := Aside0.mk (show numD bs base s = (if sg = 1 then -n else n, t2) from by rw [HNN.out, HEQ.out])
              have hn1 : 1 ≤ n := HQ2.out.2.1
              have hn2 : n < 65536 := Int.lt_of_lt_of_le HQ2.out.2.2 (Int.le_trans (pow2_le (by have := HQ2.out.1; omega)) (by decide))
              clear HNN HEQ HM2
              rcases hsg with hsg | hsg
              · subst hsg
                go_wp2
                go_ret
                exact ⟨by rw [HN5.out] <;> rfl, by rw [HN5.out]; exact D5.out, B5.out, K5.out⟩
              · subst hsg
                go_wp2
                go_ret
                exact ⟨by rw [HN5.out] <;> rfl, by rw [HN5.out]; exact D5.out, B5.out, K5.out⟩

/-! ### spec_ReadNums: function 36 (by hand) -/
theorem betweenN_calls (a b c : Int) (w : World) : Calls Try.prog 58 #[.int .i64 a, .int .i64 b, .int .i64 c] w fun e w' => e = .returned (.bool (inR a b c)) ∧ Drawn0 w w' :=
  spec_l01Between.calls a b c _ w (inR_ite a b c)
def spec_ReadNums.f (l0 : List Int) (a1 a2 : Int) : Option (List Int) := if bytesB l0 = true ∧ l0.length ≤ 4611686018427387904 then some (readI l0 a1 a2) else none
set_option maxHeartbeats 4000000 in
set_option maxRecDepth 100000 in
theorem spec_ReadNums.calls (A0 : Option Addr) (c0 : Nat) (l0 : List Int) (a1 a2 : Int) (r : List Int) (w : World) (hr0 : Kd.C (Kd.int .u8) w A0 l0.length l0) (hc0 : l0.length ≤ c0) (h : spec_ReadNums.f l0 a1 a2 = some r) :
    Calls Try.prog 36 #[.slice A0 l0.length c0, .int .i64 a1, .int .i64 a2] w fun e w' => ∃ v0_ : Value, e = .returned (v0_) ∧ Kd.R (Kd.int .i64) 3 w' w.heap.size (fun _ => True) v0_ r ∧ Below w.heap.size w w' := by
  unfold spec_ReadNums.f at h
  by_cases hl : bytesB l0 = true ∧ l0.length ≤ 4611686018427387904
  · rw [if_pos hl] at h
    obtain rfl := Option.some.inj h
    clear h
    have HBS := Aside0.mk (bytesB_ok hl.1)
    have HR0 := Aside0.mk hr0
    have hd0 : l0.length ≤ 4611686018427387904 := hl.2
    clear hr0 hc0 hl
    have HL0 := Aside0.mk (lit_int0 w 3)
    have HBA := Aside0.mk (below_alloc (Below.refl w.heap.size w) (.cells #[] 3))
    have HSZ0 := Aside0.mk (show w.heap.size < (w.alloc (.cells #[] 3)).heap.size from blk_lt (blk_new w _))
    by_cases cn : inR a1 0 4096 = true
    · have CN := Aside0.mk cn
      by_cases cb : inR a2 0 380 = true
      · have CB := Aside0.mk cb
        rw [inR_iff] at cn cb
        obtain ⟨N, rfl⟩ := Int.eq_ofNat_of_zero_le cn.1
        have hN : N ≤ 4096 := by omega
        have hb0 : 0 ≤ a2 := cb.1
        have hb1 : a2 ≤ 380 := cb.2
        have HE := Aside0.mk (show readI l0 (N : Int) a2 = outN l0 a2 N from by unfold readI; rw [CN.out, CB.out]; rfl)
        rw [HE.out]
        clear HE cn cb
        go_enter Try.func36, Try.ntmps36
        go_wp2_with (first
          | (go_at_call 58; first | ((with_reducible refine (boolCall (betweenN_calls (N : Int) 0 4096 _) CN.out).mono ?_); rintro e w' ⟨rfl, ⟨nd, rfl⟩⟩) | ((with_reducible refine (boolCall (betweenN_calls a2 0 380 _) CB.out).mono ?_); rintro e w' ⟨rfl, ⟨nd2, rfl⟩⟩))
          | go_loud (go_at_call 69; (with_reducible refine (sReader_calls A0 c0 l0 w _ HR0.out (below_step HBA.out (by repeat (first | exact Below.refl _ _ | apply pw_below_drewN | apply below_drew))) HBS.out).mono ?_); rintro e W3 ⟨r, g, q, rfl, hd, hb2, hrq⟩; have HD3 := Aside0.mk (show SDecAt w W3 r g q l0 (stN l0 a2 0) from hd); have HB3 := Aside0.mk hb2; have HO3 := Aside0.mk (show Kd.R (Kd.int .i64) 3 W3 w.heap.size (fun j => j ≠ r ∧ j ≠ q) (.slice (some ⟨w.heap.size, 0, none⟩) 0 0) (outN l0 a2 0) from sout_keep (Kd.R_mono (Kd.R_below HL0.out (by repeat (first | exact Below.refl _ _ | apply pw_below_drewN | apply below_drew))) (fun k hk => by have := HSZ0.out; have h1 : (w.alloc (.cells #[] 3)).heap.size ≤ r := hrq.1; have h2 : (w.alloc (.cells #[] 3)).heap.size ≤ q := hrq.2.1; omega)) hrq.2.2); clear hd hb2 hrq HL0 HSZ0 HBA))
        go_loopg [7] N (fun kq v7 w' => ∃ (k : Nat) (A : Option Addr) (c : Nat), v7 = .slice A k c ∧ Aside0 (k + kq = N) ∧ Aside0 (SDecAt w w' r g q l0 (stN l0 a2 k)) ∧ Aside0 (Kd.R (Kd.int .i64) 3 w' w.heap.size (fun j => j ≠ r ∧ j ≠ q) (.slice A k c) (outN l0 a2 k)) ∧ Aside0 (Below w.heap.size w w'))
        case atStart => exact ⟨0, _, _, rfl, ⟨by omega⟩, HD3, HO3, HB3⟩
        case round =>
          clear HD3 HO3 HB3
          obtain ⟨k, A, c, rfl, HQ, HD, HO, HB⟩ := hrel
          by_cases hk : k < N
          · have hki : (k : Int) < (N : Int) := by omega
            have hst := stN_ok HBS.out hb0 hb1 k
            have hkn : k ≤ 4096 := by omega
            have HLN := Aside0.mk (outN_length l0 a2 k)
            have HLN1 := Aside0.mk (outN_length l0 a2 (k + 1))
            have HST := Aside0.mk hst.1
            have HTT := Aside0.mk (show (stN l0 a2 k).at_ ≤ 900000000 from by have := hst.2; omega)
            clear hst
            go_wp2_with (first
              | (go_at_call 74; (with_reducible refine (sNum_calls r g q l0 (stN l0 a2 k) a2 w _ HD.out HST.out hb0 hb1 HB.out HBS.out HTT.out).mono ?_); rintro e W4 ⟨rfl, d4, b4, k4⟩; have HO4 := Aside0.mk (sout_keep HO.out k4); have HD4 := Aside0.mk d4; have HB4 := Aside0.mk b4; clear d4 b4 k4)
              | ((with_reducible refine gate_builtin (b := .append) (xs := #[.tmp 29, .tmp 31]) rfl ?_); at_builtin; refine Kd.R_append (Kd.int .i64) (w0 := w) w.heap.size rfl (.tmp 29) (.tmp 31) 34 3 (.int .i64 0) 8 rfl Try.underlying34 info3 rfl (by decide) (by omega) (.slice A k c) (outN l0 a2 k) (numD l0 a2 (stN l0 a2 k)).1 [.int .i64 (numD l0 a2 (stN l0 a2 k)).1] (fun j => j ≠ r ∧ j ≠ q) (fun _ => False) rfl rfl ?aP (fun _ hk => hk.elim) ?aF ?aO ?aB ?aS ?aL ?_; (case aP => exact rfl); (case aF => exact sdec_above HD4.out); (case aO => exact HO4.out); (case aB => exact HB4.out); (case aS => exact HB4.out.size); (case aL => rw [HLN.out]; omega); intro v1 w5 ho hb hg hat; obtain ⟨A1, c1, rfl⟩ := Kd.R_slice ho; have HD5 := Aside0.mk (sdec_grown HD4.out HO4.out hg); have HO5 := Aside0.mk (show Kd.R (Kd.int .i64) 3 w5 w.heap.size (fun j => j ≠ r ∧ j ≠ q) (.slice A1 (outN l0 a2 (k + 1)).length c1) (outN l0 a2 (k + 1)) from ho); rw [HLN1.out] at HO5; rw [show (outN l0 a2 k ++ [(numD l0 a2 (stN l0 a2 k)).1]).length = k + 1 from HLN1.out]; have HB5 := Aside0.mk hb; clear ho hb hg hat))
            go_roundg (N - (k + 1))
            case measure => have := HQ.out; omega
            case rel => exact ⟨k + 1, A1, c1, rfl, ⟨by have := HQ.out; omega⟩, HD5, HO5, HB5⟩
          · have hki : ¬ (k : Int) < (N : Int) := by omega
            have e := HQ.out
            obtain rfl : k = N := by omega
            clear e
            go_wp2
            go_ret
            exact ⟨_, rfl, Kd.R_mono HO.out (fun _ _ => trivial), HB.out⟩
      · have CB := Aside0.mk (Bool.eq_false_iff.2 cb)
        have HE := Aside0.mk (show readI l0 a1 a2 = [] from by unfold readI; rw [CB.out, Bool.and_false]; rfl)
        rw [HE.out]
        clear HE cn cb
        go_enter Try.func36, Try.ntmps36
        go_wp2_with (go_at_call 58; first | ((with_reducible refine (boolCall (betweenN_calls a1 0 4096 _) CN.out).mono ?_); rintro e w' ⟨rfl, ⟨nd, rfl⟩⟩) | ((with_reducible refine (boolCall (betweenN_calls a2 0 380 _) CB.out).mono ?_); rintro e w' ⟨rfl, ⟨nd2, rfl⟩⟩))
        go_ret
        exact ⟨_, rfl, Kd.R_mono (Kd.R_below HL0.out (by repeat (first | exact Below.refl _ _ | apply pw_below_drewN))) (fun _ _ => trivial), below_step HBA.out (by repeat (first | exact Below.refl _ _ | apply pw_below_drewN))⟩
    · have CN := Aside0.mk (Bool.eq_false_iff.2 cn)
      have HE := Aside0.mk (show readI l0 a1 a2 = [] from by unfold readI; rw [CN.out, Bool.false_and]; rfl)
      rw [HE.out]
      clear HE cn
      go_enter Try.func36, Try.ntmps36
      go_wp2_with (go_at_call 58; ((with_reducible refine (boolCall (betweenN_calls a1 0 4096 _) CN.out).mono ?_); rintro e w' ⟨rfl, ⟨nd, rfl⟩⟩))
      go_ret
      exact ⟨_, rfl, Kd.R_mono (Kd.R_below HL0.out (by repeat (first | exact Below.refl _ _ | apply pw_below_drewN))) (fun _ _ => trivial), below_step HBA.out (by repeat (first | exact Below.refl _ _ | apply pw_below_drewN))⟩
  · rw [if_neg hl] at h
    cases h
theorem sRead_f (b : List Int) (n base : Int) (hb : bytesB b = true) (h0 : b.length ≤ 4611686018427387904) : spec_ReadNums.f b n base = some (readI b n base) := by unfold spec_ReadNums.f; rw [if_pos ⟨hb, h0⟩]

end Go.Proofs.Ytdeheflbigggbaa.CR
