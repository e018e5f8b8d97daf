/- Functions that a law of this seat reaches: written by a program of this session (wip/xprint.py), and by hand. -/
import Derived.Test.YtdeheflbigggbaaCDx0
import Derived.Test.YtdeheflbigggbaaCDx1
import Derived.Test.YtdeheflbigggbaaCDx2
namespace Go.Proofs.Ytdeheflbigggbaa.CD
open Go.RowKit Go.Proofs.Ytdeheflbigggbaa.B Go.Proofs.YtdeheflbigggbaaW.PrintWords Go.Proofs.YtdeheflbigggbaaW.PrintLast Go.Proofs.YtdeheflbigggbaaW.PrintMore
attribute [local go_sem] max2_int min2_int max_two min_two max_three min_three max_four min_four   -- for this text's walks alone
set_option linter.unusedVariables false
set_option linter.unusedSimpArgs false

/-! ### impl_newBinReader: function 72 (by hand) -/
theorem dec_code {w0 W : World} {r p : Nat} {bs : List Int} {lik : List Int} {code width : Int} {n : Nat} (h : DecAt w0 W r p bs ⟨lik, code, width, n⟩) (x : Int) : DecAt w0 (W.setCell ⟨r, 1, none⟩ (.int .i64 x)) r p bs ⟨lik, x, width, n⟩ := by
  obtain ⟨L, hB, A0, c0, G, h1, h2⟩ := h
  refine ⟨blk_far L (blk_ne L G (by decide)) _, hB, A0, c0, ?_, h1, h2⟩
  rw [blk_set G 1]
  rfl
theorem dec_width {w0 W : World} {r p : Nat} {bs : List Int} {lik : List Int} {code width : Int} {n : Nat} (h : DecAt w0 W r p bs ⟨lik, code, width, n⟩) (x : Int) : DecAt w0 (W.setCell ⟨r, 2, none⟩ (.int .i64 x)) r p bs ⟨lik, code, x, n⟩ := by
  obtain ⟨L, hB, A0, c0, G, h1, h2⟩ := h
  refine ⟨blk_far L (blk_ne L G (by decide)) _, hB, A0, c0, ?_, h1, h2⟩
  rw [blk_set G 2]
  rfl
theorem dec_lik {w0 W : World} {r p : Nat} {bs : List Int} {lik : List Int} {code width : Int} {n : Nat} (h : DecAt w0 W r p bs ⟨lik, code, width, n⟩) (i : Nat) (x : Int) : DecAt w0 (W.setCell ⟨p, i, none⟩ (.int .i64 x)) r p bs ⟨lik.set i x, code, width, n⟩ := by
  obtain ⟨L, hB, A0, c0, G, h1, h2⟩ := h
  exact ⟨lik_set L i x, hB, A0, c0, blk_far G (fun e => blk_ne L G (by decide) e.symm) _, h1, h2⟩
theorem dec_cells {w0 W : World} {r p : Nat} {bs : List Int} {lik : List Int} {code width : Int} {n : Nat} (h : DecAt w0 W r p bs ⟨lik, code, width, n⟩) :
    W.cell? ⟨r, 0, none⟩ = some (.pointer (some ⟨p, 0, none⟩)) ∧ W.cell? ⟨r, 1, none⟩ = some (.int .i64 code) ∧ W.cell? ⟨r, 2, none⟩ = some (.int .i64 width) ∧ W.frozen? ⟨r, 1, none⟩ = false ∧ W.frozen? ⟨r, 2, none⟩ = false ∧ r < W.heap.size ∧ p < W.heap.size ∧ w0.heap.size ≤ r ∧ w0.heap.size ≤ p := by
  obtain ⟨L, hB, A0, c0, G, h1, h2⟩ := h
  exact ⟨(blk_cell G 0).trans rfl, (blk_cell G 1).trans rfl, (blk_cell G 2).trans rfl, blk_frozen G 1, blk_frozen G 2, blk_lt G, blk_lt L, hB.2, hB.1⟩
theorem numAt_range {b : List Int} (h : BytesOk b) : ∀ k : Nat, 0 ≤ numAt b k ∧ numAt b k < 256 ^ k
  | 0 => by simp [numAt]
  | k + 1 => by
    have h1 := numAt_range h k
    have h2 := byteAt_range h k
    rw [pow_step]
    unfold numAt
    omega
theorem numAt_start {b : List Int} : (⟨likL, numAt b 4, 4294967295, 4⟩ : Dec) = startD b := by
  unfold startD
  congr 1
  simp only [numAt]
  omega
def GotReader (w0 : World) (bs : List Int) (e : Ending) (w' : World) : Prop := ∃ r p, e = .returned (.pointer (some ⟨r, 0, none⟩)) ∧ DecAt w0 w' r p bs (startD bs) ∧ Below w0.heap.size w0 w'
set_option maxHeartbeats 4000000 in
set_option maxRecDepth 100000 in
theorem iNewReader_calls (A : Option Addr) (c : Nat) (bs : List Int) (w0 W : World) (hr : Kd.C (Kd.int .u8) w0 A bs.length bs) (hl : bs.length ≤ c) (hb : Below w0.heap.size w0 W) (hbs : BytesOk bs) :
    Calls Try.prog 72 #[.slice A bs.length c] W (GotReader w0 bs) := by
  have HR := Aside0.mk hr
  have HL := Aside0.mk hl
  have HB := Aside0.mk hb
  have HBS := Aside0.mk hbs
  clear hr hl hb hbs
  go_enter Try.func72, Try.ntmps72
  go_wp2_with (go_at_call 98; (with_reducible refine (iNewLik_calls _).mono ?_); rintro e w1 ⟨p, rfl, hlk, hp, hb⟩; have HLK := Aside0.mk hlk; have HP := Aside0.mk hp; have HB1 := Aside0.mk (below_step HB.out hb); clear hlk hp hb)
  obtain ⟨W2, HW2⟩ : ∃ W2, Aside0 (W2 = w1.alloc (.cells #[.pointer (some ⟨p, 0, none⟩), .int .i64 0, .int .i64 4294967295, .slice A bs.length c] 114)) := ⟨_, ⟨rfl⟩⟩
  have HD := Aside0.mk (show DecAt w0 W2 w1.heap.size p bs ⟨likL, numAt bs 0, 4294967295, 0⟩ from by
    rw [HW2.out]
    have hb2 := below_alloc (Below.refl w1.heap.size w1) (.cells #[.pointer (some ⟨p, 0, none⟩), .int .i64 0, .int .i64 4294967295, .slice A bs.length c] 114)
    exact ⟨(hb2.block p (blk_lt HLK.out)).trans HLK.out, ⟨Nat.le_trans (below_size HB.out) HP.out, below_size HB1.out⟩, A, c, blk_new w1 _, HL.out, HR.out⟩)
  have HB2 := Aside0.mk (show Below w0.heap.size w0 W2 from by rw [HW2.out]; exact below_alloc HB1.out _)
  obtain ⟨r, HRR⟩ : ∃ r, Aside0 (r = w1.heap.size) := ⟨_, ⟨rfl⟩⟩
  rw [← HRR.out] at HD
  rw [← HW2.out, ← HRR.out]
  clear HW2 HB HB1 HLK HP HRR
  go_loopg [8] 4 (fun kq v8 w' => ∃ (k : Nat), v8 = .int .i64 (k : Int) ∧ Aside0 (k + kq = 4) ∧ Aside0 (DecAt w0 w' r p bs ⟨likL, numAt bs k, 4294967295, k⟩) ∧ Aside0 (Below w0.heap.size w0 w'))
  case atStart => exact ⟨0, rfl, ⟨rfl⟩, HD, HB2⟩
  case round =>
    clear HD HB2
    obtain ⟨k, rfl, HQ, HD, HB⟩ := hrel
    by_cases hk : k < 4
    · have hk2 : (k : Int) < 4 := by omega
      have hnr := numAt_range HBS.out k
      have hn1 : numAt bs k ≤ 16777215 := by
        obtain rfl | rfl | rfl | rfl : k = 0 ∨ k = 1 ∨ k = 2 ∨ k = 3 := by omega
        all_goals have := hnr.2; omega
      have hn0 : 0 ≤ numAt bs k := hnr.1
      have hby := byteAt_range HBS.out k
      have HNX := Aside0.mk (show numAt bs (k + 1) = numAt bs k * 256 + byteAt bs k from by show 256 * numAt bs k + byteAt bs k = _; omega)
      clear hnr
      obtain ⟨hb0, hb1⟩ := hby
      obtain ⟨h0, h1, h2, f1, f2, hrl, hpl, hr0, hp0⟩ := dec_cells HD.out
      generalize HM : numAt bs k = m at hn0 hn1 HNX HD h1
      generalize HY : byteAt bs k = y at hb0 hb1 HNX
      have HY2 := Aside0.mk HY
      clear HM HY
      go_wp2
      go_region_with (go_at_call 105; (with_reducible refine (iNext_calls r p bs likL m 4294967295 k w0 _ (dec_drew HD.out) (below_drew HB.out) HBS.out).mono ?_); rintro e W3 ⟨rfl, d3, b3, -⟩; rw [HY2.out]; have D3 := Aside0.mk d3; have B3 := Aside0.mk ((below_drew HB.out).trans b3); clear d3 b3; obtain ⟨g0, g1, g2, e1, e2, -, -, -, -⟩ := dec_cells D3.out)
      all_goals
        go_wp2
        go_roundg (4 - (k + 1))
        case measure => have := HQ.out; omega
        case rel => exact ⟨k + 1, by first | rfl | go_num | simp, ⟨by have := HQ.out; omega⟩, ⟨by rw [HNX.out]; exact dec_code D3.out _⟩, ⟨B3.out.setCell hr0 _⟩⟩
    · have hk2 : ¬ (k : Int) < 4 := by omega
      have e := HQ.out
      obtain rfl : k = 4 := by omega
      clear e
      go_wp2
      go_ret
      exact ⟨r, p, rfl, by rw [← numAt_start]; exact HD.out, HB.out⟩

/-! ### impl_binReader_bit: function 73 (by hand) -/
set_option maxHeartbeats 4000000 in
set_option maxRecDepth 100000 in
theorem iBit_calls (r p : Nat) (bs : List Int) (lik : List Int) (code width : Int) (n ctx : Nat) (w0 W : World) (h : DecAt w0 W r p bs ⟨lik, code, width, n⟩) (hs : DecOk ⟨lik, code, width, n⟩) (hc : ctx < 400) (hb : Below w0.heap.size w0 W) (hbs : BytesOk bs) :
    Calls Try.prog 73 #[.pointer (some ⟨r, 0, none⟩), .int .i64 ctx] W fun e w' => e = .returned (.int .i64 (bitD ⟨lik, code, width, n⟩ ctx)) ∧ DecAt w0 w' r p bs (stepD bs ⟨lik, code, width, n⟩ ctx) ∧ Below w0.heap.size w0 w' ∧ KeepBut W w' r (some p) := by
  have hc0 : 0 ≤ code := hs.c0
  have hc1 : code ≤ 4294967295 := hs.c1
  have hw0 : 16777216 ≤ width := hs.w0
  have hw1 : width ≤ 4294967295 := hs.w1
  have hlk : LikOk lik := hs.lik
  have hr := lik_rd hlk (c := (ctx : Int)) (by omega) (by omega)
  have hpr := partE_range hlk hw0 (ctx := (ctx : Int)) (by omega) (by omega)
  have HD0 := Aside0.mk h
  have HB := Aside0.mk hb
  have HBS := Aside0.mk hbs
  obtain ⟨hb0, hb1, hb2, hf1, hf2, hrl, hpl, hrB, hpB⟩ := dec_cells h
  have hcl := lik_cell h.1 ctx (show ctx < lik.length from by rw [hlk.1]; exact hc)
  replace hcl : W.cell? ⟨p, ctx, none⟩ = some (.int .i64 (rd lik (ctx : Int))) := hcl
  obtain ⟨x, HX⟩ : ∃ x, Aside0 (x = rd lik (ctx : Int)) := ⟨_, ⟨rfl⟩⟩
  rw [← HX.out] at hr hcl
  obtain ⟨pt, HPT⟩ : ∃ pt, Aside0 (pt = partE lik width (ctx : Int)) := ⟨_, ⟨rfl⟩⟩
  rw [← HPT.out] at hpr
  have hmul : wrap64 (width / 4096 * x) = pt := by
    have e : width / 4096 * x = pt := by rw [HPT.out, HX.out]; rfl
    rw [e]
    exact w64 (by omega) (by omega)
  have hmul2 : IntKind.i64.wrap (width / 4096 * x) = pt := (i64_w _).trans hmul
  obtain ⟨hr0, hr1⟩ := hr
  obtain ⟨hp0, hp1⟩ := hpr
  have HK := Aside0.mk hlk
  have hlt : (ctx : Int) < 400 := by omega
  clear hlk h hb hbs
  by_cases hcmp : code < pt
  · have HBD := Aside0.mk (show bitD ⟨lik, code, width, n⟩ ctx = 0 from by unfold bitD; simp only []; rw [← HPT.out, if_pos hcmp])
    have HCD := Aside0.mk (show codeD ⟨lik, code, width, n⟩ ctx = code from by unfold codeD; simp only []; rw [← HPT.out, if_pos hcmp])
    have HWD := Aside0.mk (show widthD ⟨lik, code, width, n⟩ ctx = pt from by unfold widthD; simp only []; rw [← HPT.out, if_pos hcmp])
    go_enter Try.func73, Try.ntmps73
    go_wp2
    go_quiet (fail)
    go_wp2_with fail
    obtain ⟨W1, HW1⟩ : ∃ W1, Aside0 (W1 = (W.drewN nq).setCell ⟨r, 2, none⟩ (.int .i64 pt)) := ⟨_, ⟨rfl⟩⟩
    have D1 := Aside0.mk (show DecAt w0 W1 r p bs ⟨lik, code, pt, n⟩ from by rw [HW1.out]; exact dec_width (dec_drewN HD0.out _) pt)
    have B1 := Aside0.mk (show Below w0.heap.size w0 W1 from by rw [HW1.out]; exact (pw_below_drewN HB.out _).setCell hrB _)
    have K1 := Aside0.mk (show KeepBut W W1 r (some p) from by rw [HW1.out]; exact (show KeepBut W (W.drewN nq) r (some p) from KeepBut.refl _ _ _).set_ _ _)
    rw [← HW1.out]
    clear HW1 hb1 hb2 hf1 hf2 hb0 hcl
    obtain ⟨hb0, hb1, hb2, hf1, hf2, hrl1, hpl1, -, -⟩ := dec_cells D1.out
    go_wp2_with fail
    refine (iLearn_calls p lik ctx 0 _ D1.out.1 HK.out hc).mono ?_
    rintro e w' ⟨rfl, ⟨nl, rfl⟩⟩
    obtain ⟨W2, HW2⟩ : ∃ W2, Aside0 (W2 = (W1.setCell ⟨p, ctx, none⟩ (.int .i64 (learnP (rd lik ctx) 0))).drewN nl) := ⟨_, ⟨rfl⟩⟩
    have D2 := Aside0.mk (show DecAt w0 W2 r p bs ⟨learnL lik ctx 0, code, pt, n⟩ from by rw [HW2.out]; exact dec_drewN (dec_lik D1.out ctx _) _)
    have B2 := Aside0.mk (show Below w0.heap.size w0 W2 from by rw [HW2.out]; exact pw_below_drewN (B1.out.setCell hpB _) _)
    have K2 := Aside0.mk (show KeepBut W W2 r (some p) from by rw [HW2.out]; exact keep_row K1.out _ _)
    rw [← HW2.out]
    clear HW2 hb0 hb1 hb2 hf1 hf2 D1 B1 K1
    go_wp2
    obtain ⟨hb0, hb1, hb2, hf1, hf2, hrl2, hpl2, -, -⟩ := dec_cells D2.out
    by_cases hsm : pt < 16777216
    · have HE := Aside0.mk (show stepD bs ⟨lik, code, width, n⟩ ctx = ⟨learnL lik ctx 0, code % 16777216 * 256 + byteAt bs n, pt * 256, n + 1⟩ from by
        unfold stepD
        rw [HWD.out, HBD.out, HCD.out, if_pos hsm])
      have hby := byteAt_range HBS.out n
      obtain ⟨y, HY⟩ : ∃ y, Aside0 (byteAt bs n = y) := ⟨_, ⟨rfl⟩⟩
      rw [HY.out] at hby HE
      obtain ⟨hy0, hy1⟩ := hby
      have hq0 : 0 ≤ code % 16777216 := by omega
      have hq1 : code % 16777216 ≤ 16777215 := by omega
      have hq2 : 16777216 ≤ pt * 256 := by omega
      have hq3 : pt * 256 ≤ 4294967296 := by omega
      refine wp_loop_rounds 2 ?_
      rw [rounds_succ]
      go_wp2
      go_region_with (go_at_call 105; (with_reducible refine (iNext_calls r p bs (learnL lik ctx 0) (code) (pt) n w0 _ (dec_drew D2.out) (below_drew B2.out) HBS.out).mono ?_); rintro e W3 ⟨rfl, d3, b3, k3⟩; rw [HY.out]; have D3 := Aside0.mk d3; have K3 := Aside0.mk (KeepBut.trans (show KeepBut W W2.drew r (some p) from K2.out) k3 (.inl rfl)); clear k3; have B3 := Aside0.mk ((below_drew B2.out).trans b3); clear d3 b3; obtain ⟨g0, g1, g2, e1, e2, -, -, -, -⟩ := dec_cells D3.out)
      all_goals
        go_wp2
        rw [rounds_succ]
        go_wp2
        go_ret
        exact ⟨by rw [HBD.out] <;> rfl, by rw [HE.out]; exact dec_width (dec_code D3.out _) _, (B3.out.setCell hrB _).setCell hrB _, (K3.out.set_ _ _).set_ _ _⟩
    · have HE := Aside0.mk (show stepD bs ⟨lik, code, width, n⟩ ctx = ⟨learnL lik ctx 0, code, pt, n⟩ from by
        unfold stepD
        rw [HWD.out, HBD.out, HCD.out, if_neg hsm])
      have hq2 : 16777216 ≤ pt := by omega
      refine wp_loop_rounds 1 ?_
      rw [rounds_succ]
      go_wp2
      go_ret
      exact ⟨by rw [HBD.out] <;> rfl, by rw [HE.out]; exact D2.out, B2.out, K2.out⟩
  · have HBD := Aside0.mk (show bitD ⟨lik, code, width, n⟩ ctx = 1 from by unfold bitD; simp only []; rw [← HPT.out, if_neg hcmp])
    have HCD := Aside0.mk (show codeD ⟨lik, code, width, n⟩ ctx = code - pt from by unfold codeD; simp only []; rw [← HPT.out, if_neg hcmp])
    have HWD := Aside0.mk (show widthD ⟨lik, code, width, n⟩ ctx = width - pt from by unfold widthD; simp only []; rw [← HPT.out, if_neg hcmp])
    have hge : pt ≤ code := by omega
    go_enter Try.func73, Try.ntmps73
    go_wp2
    go_quiet (fail)
    go_wp2_with fail
    go_region
    go_wp2_with fail
    obtain ⟨W1, HW1⟩ : ∃ W1, Aside0 (W1 = ((W.drewN (nq + 1)).setCell ⟨r, 1, none⟩ (.int .i64 (code - pt))).setCell ⟨r, 2, none⟩ (.int .i64 (width - pt))) := ⟨_, ⟨rfl⟩⟩
    have D1 := Aside0.mk (show DecAt w0 W1 r p bs ⟨lik, (code - pt), (width - pt), n⟩ from by rw [HW1.out]; exact dec_width (dec_code (dec_drewN HD0.out _) _) _)
    have B1 := Aside0.mk (show Below w0.heap.size w0 W1 from by rw [HW1.out]; exact ((pw_below_drewN HB.out _).setCell hrB _).setCell hrB _)
    have K1 := Aside0.mk (show KeepBut W W1 r (some p) from by rw [HW1.out]; exact ((show KeepBut W (W.drewN (nq + 1)) r (some p) from KeepBut.refl _ _ _).set_ _ _).set_ _ _)
    rw [← HW1.out]
    clear HW1 hb1 hb2 hf1 hf2 hb0 hcl
    obtain ⟨hb0, hb1, hb2, hf1, hf2, hrl1, hpl1, -, -⟩ := dec_cells D1.out
    go_wp2_with fail
    refine (iLearn_calls p lik ctx 1 _ D1.out.1 HK.out hc).mono ?_
    rintro e w' ⟨rfl, ⟨nl, rfl⟩⟩
    obtain ⟨W2, HW2⟩ : ∃ W2, Aside0 (W2 = (W1.setCell ⟨p, ctx, none⟩ (.int .i64 (learnP (rd lik ctx) 1))).drewN nl) := ⟨_, ⟨rfl⟩⟩
    have D2 := Aside0.mk (show DecAt w0 W2 r p bs ⟨learnL lik ctx 1, (code - pt), (width - pt), n⟩ from by rw [HW2.out]; exact dec_drewN (dec_lik D1.out ctx _) _)
    have B2 := Aside0.mk (show Below w0.heap.size w0 W2 from by rw [HW2.out]; exact pw_below_drewN (B1.out.setCell hpB _) _)
    have K2 := Aside0.mk (show KeepBut W W2 r (some p) from by rw [HW2.out]; exact keep_row K1.out _ _)
    rw [← HW2.out]
    clear HW2 hb0 hb1 hb2 hf1 hf2 D1 B1 K1
    go_wp2
    obtain ⟨hb0, hb1, hb2, hf1, hf2, hrl2, hpl2, -, -⟩ := dec_cells D2.out
    by_cases hsm : (width - pt) < 16777216
    · have HE := Aside0.mk (show stepD bs ⟨lik, code, width, n⟩ ctx = ⟨learnL lik ctx 1, (code - pt) % 16777216 * 256 + byteAt bs n, (width - pt) * 256, n + 1⟩ from by
        unfold stepD
        rw [HWD.out, HBD.out, HCD.out, if_pos hsm])
      have hby := byteAt_range HBS.out n
      obtain ⟨y, HY⟩ : ∃ y, Aside0 (byteAt bs n = y) := ⟨_, ⟨rfl⟩⟩
      rw [HY.out] at hby HE
      obtain ⟨hy0, hy1⟩ := hby
      have hq0 : 0 ≤ (code - pt) % 16777216 := by omega
      have hq1 : (code - pt) % 16777216 ≤ 16777215 := by omega
      have hq2 : 16777216 ≤ (width - pt) * 256 := by omega
      have hq3 : (width - pt) * 256 ≤ 4294967296 := by omega
      refine wp_loop_rounds 2 ?_
      rw [rounds_succ]
      go_wp2
      go_region_with (go_at_call 105; (with_reducible refine (iNext_calls r p bs (learnL lik ctx 1) ((code - pt)) ((width - pt)) n w0 _ (dec_drew D2.out) (below_drew B2.out) HBS.out).mono ?_); rintro e W3 ⟨rfl, d3, b3, k3⟩; rw [HY.out]; have D3 := Aside0.mk d3; have K3 := Aside0.mk (KeepBut.trans (show KeepBut W W2.drew r (some p) from K2.out) k3 (.inl rfl)); clear k3; have B3 := Aside0.mk ((below_drew B2.out).trans b3); clear d3 b3; obtain ⟨g0, g1, g2, e1, e2, -, -, -, -⟩ := dec_cells D3.out)
      all_goals
        go_wp2
        rw [rounds_succ]
        go_wp2
        go_ret
        exact ⟨by rw [HBD.out] <;> rfl, by rw [HE.out]; exact dec_width (dec_code D3.out _) _, (B3.out.setCell hrB _).setCell hrB _, (K3.out.set_ _ _).set_ _ _⟩
    · have HE := Aside0.mk (show stepD bs ⟨lik, code, width, n⟩ ctx = ⟨learnL lik ctx 1, (code - pt), (width - pt), n⟩ from by
        unfold stepD
        rw [HWD.out, HBD.out, HCD.out, if_neg hsm])
      have hq2 : 16777216 ≤ (width - pt) := by omega
      refine wp_loop_rounds 1 ?_
      rw [rounds_succ]
      go_wp2
      go_ret
      exact ⟨by rw [HBD.out] <;> rfl, by rw [HE.out]; exact D2.out, B2.out, K2.out⟩

/-! ### impl_DecodeBins: function 28 (by hand) -/
theorem bitsD_snoc (b : List Int) : ∀ (l : List Int) (s : Dec) (c : Int), bitsD b s (l ++ [c]) = bitsD b s l ++ [bitD (l.foldl (stepD b) s) c]
  | [], s, c => rfl
  | x :: l, s, c => by
    show bitD s x :: bitsD b (stepD b s x) (l ++ [c]) = _
    rw [bitsD_snoc b l]
    rfl
def stK (b l : List Int) (k : Nat) : Dec := (l.take k).foldl (stepD b) (startD b)
def outK (b l : List Int) (k : Nat) : List Int := bitsD b (startD b) (l.take k)
theorem stK_succ (b l : List Int) {k : Nat} (hk : k < l.length) : stK b l (k + 1) = stepD b (stK b l k) l[k] := by
  unfold stK
  rw [List.take_succ_eq_append_getElem hk, List.foldl_append]
  rfl
theorem outK_succ (b l : List Int) {k : Nat} (hk : k < l.length) : outK b l (k + 1) = outK b l k ++ [bitD (stK b l k) l[k]] := by
  unfold outK stK
  rw [List.take_succ_eq_append_getElem hk, bitsD_snoc]
theorem outK_length (b l : List Int) (k : Nat) (hk : k ≤ l.length) : (outK b l k).length = k := by
  unfold outK
  rw [bitsD_length, List.length_take]
  omega
theorem stK_ok {b : List Int} (hb : BytesOk b) (l : List Int) (hl : ∀ x ∈ l, 0 ≤ x ∧ x < 400) : ∀ k : Nat, k ≤ l.length → DecOk (stK b l k) ∧ (stK b l k).at_ ≤ k + 4
  | 0, _ => ⟨startD_ok hb, Nat.le_refl _⟩
  | k + 1, hk => by
    have ih := stK_ok hb l hl k (by omega)
    have hx := hl _ (List.getElem_mem (show k < l.length by omega))
    rw [stK_succ b l (by omega)]
    exact ⟨stepD_ok hb ih.1 hx.1 hx.2, Nat.le_trans (stepD_at b (stK b l k) l[k]).2 (by omega)⟩
def bytesB (l : List Int) : Bool := l.all fun x => decide (0 ≤ x) && decide (x ≤ 255)
theorem bytesB_ok {l : List Int} (h : bytesB l = true) : BytesOk l := fun x hx => by
  have := List.all_eq_true.1 h x hx
  simpa using this
def decodeI (b l : List Int) : List Int := if decide (l.length ≤ 200000) && allR l 0 399 then decL b l else []
theorem within_of {l : List Int} (h : allR l 0 399 = true) : ∀ x ∈ l, 0 ≤ x ∧ x < 400 := fun x hx => by
  have := List.all_eq_true.1 h x hx
  rw [inR_iff] at this
  omega
theorem lit_ints {w W : World} (hb : Below w.heap.size w W) (e r p : Nat) (h : W.heap.size ≠ r ∧ W.heap.size ≠ p) : Kd.R (Kd.int .i64) e (W.alloc (.cells #[] e)) w.heap.size (fun j => j ≠ r ∧ j ≠ p) (.slice (some ⟨W.heap.size, 0, none⟩) 0 0) [] := by
  have := World.ownsRow_lit (base := w.heap.size) (e := e) (size := 1) W #[] 0 hb.size (by decide) (by simp)
  exact ⟨fun k hk => by injection hk with hk; subst hk; exact h, [], this, Reps.none _ _⟩
theorem dec_grown {w0 W W1 : World} {r p : Nat} {bs : List Int} {s : Dec} {B : Nat} {ok : Nat → Prop} {v : Value} {ys : List Int} (h : DecAt w0 W r p bs s) (hR : Kd.R (Kd.int .i64) 3 W B ok v ys) (hg : W.grownBy W1 v.ownBlock) : DecAt w0 W1 r p bs s := by
  obtain ⟨L, hB, A, c, G, h1, h2⟩ := h
  exact ⟨blk_grown L hg (Kd.R_ne hR L (by decide)), hB, A, c, blk_grown G hg (Kd.R_ne hR G (by decide)), h1, h2⟩
theorem out_keep {W W1 : World} {r p e B : Nat} {v : Value} {ys : List Int} (h : Kd.R (Kd.int .i64) e W B (fun j => j ≠ r ∧ j ≠ p) v ys) (hk : KeepBut W W1 r (some p)) : Kd.R (Kd.int .i64) e W1 B (fun j => j ≠ r ∧ j ≠ p) v ys :=
  Kd.R_step h (fun k ho hlt => hk.2 k hlt ho.1 (fun e => ho.2 (Option.some.inj e)))
theorem dec_alloc {w0 W : World} {r p : Nat} {bs : List Int} {s : Dec} (h : DecAt w0 W r p bs s) (o : Obj) : DecAt w0 (W.alloc o) r p bs s := by
  have hb := below_alloc (Below.refl W.heap.size W) o
  obtain ⟨L, hB, A, c, G, h1, h2⟩ := h
  exact ⟨(hb.block p (blk_lt L)).trans L, hB, A, c, (hb.block r (blk_lt G)).trans G, h1, h2⟩
theorem dec_fresh {w0 W : World} {r p : Nat} {bs : List Int} {s : Dec} (h : DecAt w0 W r p bs s) : W.heap.size ≠ r ∧ W.heap.size ≠ p := by
  obtain ⟨L, hB, A, c, G, h1, h2⟩ := h
  have := blk_lt L
  have := blk_lt G
  omega
theorem dec_above {w0 W : World} {r p : Nat} {bs : List Int} {s : Dec} (h : DecAt w0 W r p bs s) : ∀ k, W.heap.size ≤ k → k ≠ r ∧ k ≠ p := by
  obtain ⟨L, hB, A, c, G, h1, h2⟩ := h
  have := blk_lt L
  have := blk_lt G
  omega
def impl_DecodeBins.f (l0 l1 : List Int) : Option (List Int) := if bytesB l0 = true ∧ l0.length ≤ 4611686018427387904 ∧ l1.length ≤ 4611686018427387904 then some (decodeI l0 l1) else none
set_option maxHeartbeats 4000000 in
set_option maxRecDepth 100000 in
theorem impl_DecodeBins.calls (A0 : Option Addr) (c0 : Nat) (l0 : List Int) (A1 : Option Addr) (c1 : Nat) (l1 : List Int) (r : List Int) (w : World) (hr0 : Kd.C (Kd.int .u8) w A0 l0.length l0) (hc0 : l0.length ≤ c0) (hr1 : Kd.C (Kd.int .i64) w A1 l1.length l1) (hc1 : l1.length ≤ c1) (h : impl_DecodeBins.f l0 l1 = some r) :
    Calls Try.prog 28 #[.slice A0 l0.length c0, .slice A1 l1.length c1] w fun e w' => ∃ v0_ : Value, e = .returned (v0_) ∧ Kd.R (Kd.int .i64) 3 w' w.heap.size (fun _ => True) v0_ r ∧ Below w.heap.size w w' := by
  unfold impl_DecodeBins.f at h
  by_cases hl : bytesB l0 = true ∧ l0.length ≤ 4611686018427387904 ∧ l1.length ≤ 4611686018427387904
  · rw [if_pos hl] at h
    obtain rfl := Option.some.inj h
    clear h
    have HBS := Aside0.mk (bytesB_ok hl.1)
    obtain ⟨k, hk⟩ := (allWithin_f l1 0 399 (by unfold maxLen; omega)).rounds
    have HA := Aside0.mk (impl_allWithin.calls k A1 c1 l1 0 399 _ w hr1 hc1 hk)
    have HR0 := Aside0.mk hr0
    have HR1 := Aside0.mk hr1
    have HC0 := Aside0.mk hc0
    have hd0 : l0.length ≤ 4611686018427387904 := hl.2.1
    have hd1 : l1.length ≤ 4611686018427387904 := hl.2.2
    clear hr0 hr1 hc0 hc1 hk hl k
    by_cases h2 : l1.length ≤ 200000
    · have d2 : ¬ 200000 < (l1.length : Int) := by omega
      by_cases ha : allR l1 0 399 = true
      · have HE := Aside0.mk (show decodeI l0 l1 = outK l0 l1 l1.length from by unfold decodeI outK; rw [ha, decide_eq_true h2, List.take_length]; rfl)
        have HW := Aside0.mk (within_of ha)
        rw [HE.out]
        rw [ha] at HA
        clear HE ha
        go_enter Try.func28, Try.ntmps28
        go_wp2_with (first
          | (go_at_call 71; (with_reducible refine HA.out.mono ?_); rintro e w1 ⟨rfl, hb1⟩; have HB := Aside0.mk hb1.below; clear hb1)
          | (go_at_call 72; (with_reducible refine (iNewReader_calls A0 c0 l0 _ _ (Kd.C_below HR0.out HB.out) HC0.out (Below.refl _ _) HBS.out).mono ?_); rintro e W2 ⟨r, p, rfl, hd, hb2⟩; have HD0 := Aside0.mk hd; have HB0 := Aside0.mk hb2; clear hd hb2))
        obtain ⟨W3, HW3⟩ : ∃ W3, Aside0 (W3 = W2.alloc (.cells #[] 3)) := ⟨_, ⟨rfl⟩⟩
        have HBW := Aside0.mk (show Below w.heap.size w W3 from by rw [HW3.out]; exact below_alloc (below_step HB.out HB0.out) _)
        have HB3 := Aside0.mk (show Below w1.heap.size w1 W3 from by rw [HW3.out]; exact below_alloc HB0.out _)
        have HD3 := Aside0.mk (show DecAt w1 W3 r p l0 (stK l0 l1 0) from by rw [HW3.out]; exact dec_alloc HD0.out _)
        have HO3 := Aside0.mk (show Kd.R (Kd.int .i64) 3 W3 w1.heap.size (fun j => j ≠ r ∧ j ≠ p) (.slice (some ⟨W2.heap.size, 0, none⟩) 0 0) (outK l0 l1 0) from by rw [HW3.out]; exact lit_ints HB0.out _ _ _ (dec_fresh HD0.out))
        rw [← HW3.out]
        clear HW3 HD0 HB0
        go_loopg [6, 22] l1.length (fun kq v6 v22 w' => ∃ (k : Nat), v22 = .int .i64 (k : Int) ∧ Aside0 (k + kq = l1.length) ∧ Aside0 (DecAt w1 w' r p l0 (stK l0 l1 k)) ∧ Aside0 (Kd.R (Kd.int .i64) 3 w' w1.heap.size (fun j => j ≠ r ∧ j ≠ p) v6 (outK l0 l1 k)) ∧ Aside0 (Below w1.heap.size w1 w') ∧ Aside0 (Below w.heap.size w w'))
        case atStart => exact ⟨0, rfl, ⟨by omega⟩, HD3, HO3, HB3, HBW⟩
        case round =>
          clear HD3 HO3 HB3 HBW
          obtain ⟨k, rfl, HQ, HD, HO, HBB, HBW⟩ := hrel
          by_cases hk : k < l1.length
          · have hki : (k : Int) < (l1.length : Int) := by omega
            obtain ⟨ad, rfl, hx⟩ := Kd.at_int HR1.out (k : Int) (by omega) hki
            rw [rd_nat hk, Int.toNat_natCast] at hx
            replace hx := pw_cell_below HBW.out hx
            have hxw := HW.out _ (List.getElem_mem hk)
            have hst := stK_ok HBS.out l1 HW.out k (by omega)
            have HT := Aside0.mk (outK_succ l0 l1 hk)
            have HS := Aside0.mk (stK_succ l0 l1 hk)
            have HLN := Aside0.mk (outK_length l0 l1 k (by omega))
            obtain ⟨ctx, HC⟩ := Int.eq_ofNat_of_zero_le hxw.1
            rw [HC] at hx hxw HT HS
            have hc : ctx < 400 := by omega
            clear HC hxw
            generalize stK l0 l1 k = s at HD hst HT HS
            obtain ⟨lik, code, width, n⟩ := s
            have HST := Aside0.mk hst.1
            have hn := hst.2
            clear hst
            go_wp2_with (first
              | (go_at_call 73; (with_reducible refine (iBit_calls r p l0 lik code width n ctx w1 _ HD.out HST.out hc HBB.out HBS.out).mono ?_); rintro e W4 ⟨rfl, d4, b4, k4⟩; have HO4 := Aside0.mk (out_keep HO.out k4); have HD4 := Aside0.mk d4; have HB4 := Aside0.mk b4; clear d4 b4 k4)
              | ((with_reducible refine gate_builtin (b := .append) (xs := #[.tmp 26, .tmp 30]) rfl ?_); at_builtin; refine Kd.R_append (Kd.int .i64) (w0 := w1) w1.heap.size rfl (.tmp 26) (.tmp 30) 34 3 (.int .i64 0) 8 rfl Try.underlying34 info3 rfl (by decide) (by omega) u6 (outK l0 l1 k) (bitD ⟨lik, code, width, n⟩ ctx) [.int .i64 (bitD ⟨lik, code, width, n⟩ ctx)] (fun j => j ≠ r ∧ j ≠ p) (fun _ => False) rfl rfl ?aP (fun _ hk => hk.elim) ?aF ?aO ?aB ?aS ?aL ?_; (case aP => exact rfl); (case aF => exact dec_above HD4.out); (case aO => exact HO4.out); (case aB => exact HB4.out); (case aS => exact HB4.out.size); (case aL => rw [HLN.out]; omega); intro v1 w5 ho hb hg hat; have HD5 := Aside0.mk (dec_grown HD4.out HO4.out hg); have HO5 := Aside0.mk ho; have HB5 := Aside0.mk hb; clear ho hb hg hat))
            go_roundg (l1.length - (k + 1))
            case measure => have := HQ.out; omega
            case rel => exact ⟨k + 1, by first | rfl | go_num | simp, ⟨by have := HQ.out; omega⟩, ⟨by rw [HS.out]; exact HD5.out⟩, ⟨by rw [HT.out]; exact HO5.out⟩, HB5, ⟨below_step HB.out HB5.out⟩⟩
          · have hki : ¬ (k : Int) < (l1.length : Int) := by omega
            have e := HQ.out
            obtain rfl : k = l1.length := by omega
            clear e
            go_wp2
            go_ret
            exact ⟨_, rfl, Kd.R_lower (Kd.R_mono HO.out (fun _ _ => trivial)) (below_size HB.out), HBW.out⟩
      · have HE := Aside0.mk (show decodeI l0 l1 = [] from by unfold decodeI; rw [Bool.eq_false_iff.2 ha, Bool.and_false]; rfl)
        rw [HE.out]
        rw [Bool.eq_false_iff.2 ha] at HA
        clear HE ha
        go_enter Try.func28, Try.ntmps28
        go_wp2_with (first
          | (go_at_call 71; (with_reducible refine HA.out.mono ?_); rintro e w1 ⟨rfl, hb1⟩; have HB := Aside0.mk hb1.below; clear hb1))
        go_ret
        exact ⟨_, rfl, Kd.R_nil _ _ _ _ _, HB.out⟩
    · have d2 : 200000 < (l1.length : Int) := by omega
      have HE := Aside0.mk (show decodeI l0 l1 = [] from by unfold decodeI; rw [decide_eq_false h2, Bool.false_and]; rfl)
      rw [HE.out]
      clear HE HA h2
      go_enter Try.func28, Try.ntmps28
      go_wp2
      go_ret
      exact ⟨_, rfl, Kd.R_nil _ _ _ _ _, by repeat (first | exact Below.refl _ _ | apply pw_below_drewN | apply below_drew)⟩
  · rw [if_neg hl] at h
    cases h

/-! ### spec_l09In_next: function 104 (by hand) -/
/-- The likelihoods of the reference, with the block of their row. -/
def SLikQ (W : World) (B g q : Nat) (lik : List Int) : Prop := B ≤ g ∧ ∃ c, W.heap[g]? = some (.cells #[.slice (some ⟨q, 0, none⟩) lik.length c] 110 (0, 0)) ∧ Kd.R (Kd.int .i64) 3 W B (fun _ => True) (.slice (some ⟨q, 0, none⟩) lik.length c) lik
theorem slikq_of {W : World} {B g : Nat} {lik : List Int} (h : SLikAt W B g lik) (hl : 0 < lik.length) : ∃ q, SLikQ W B g q lik := by
  obtain ⟨hB, v, G, hR⟩ := h
  obtain ⟨q, c, rfl, _⟩ := Kd.R_form hR hl
  exact ⟨q, hB, c, G, hR⟩
theorem slikq_blk {W : World} {B g q : Nat} {lik : List Int} (h : SLikQ W B g q lik) (hl : 0 < lik.length) : ∃ cs, W.heap[q]? = some (.cells cs 3 (0, 0)) ∧ B ≤ q := by
  obtain ⟨hB, c, G, hR⟩ := h
  obtain ⟨q', c', e2, hq0, hq1, cells, hc⟩ := Kd.R_form hR hl
  injection e2 with e2 _ _
  injection e2 with e2
  injection e2 with e2 _ _
  subst e2
  exact ⟨cells, hc, hq0⟩
theorem slikq_cell {W : World} {B g q : Nat} {lik : List Int} (h : SLikQ W B g q lik) (i : Nat) (hi : i < lik.length) : ∃ c, W.cell? ⟨g, 0, none⟩ = some (.slice (some ⟨q, 0, none⟩) lik.length c) ∧ W.cell? ⟨q, i, none⟩ = some (.int .i64 (rd lik i)) ∧ W.frozen? ⟨q, i, none⟩ = false ∧ q < W.heap.size ∧ B ≤ q := by
  obtain ⟨cs, hq, hqB⟩ := slikq_blk h (by omega)
  obtain ⟨hB, c, G, hR⟩ := h
  obtain ⟨hx, hf⟩ := Kd.R_celln 0 hR (i : Int) (by omega) (by omega)
  rw [Int.toNat_natCast] at hx hf
  exact ⟨c, (blk_cell G 0).trans rfl, hx, hf, blk_lt hq, hqB⟩
theorem slikq_set {W : World} {B g q : Nat} {lik : List Int} (h : SLikQ W B g q lik) (hl : 0 < lik.length) (i : Nat) (x : Int) : SLikQ (W.setCell ⟨q, i, none⟩ (.int .i64 x)) B g q (lik.set i x) := by
  obtain ⟨cs, hq, hqB⟩ := slikq_blk h hl
  obtain ⟨hB, c, G, hR⟩ := h
  refine ⟨hB, c, ?_, ?_⟩
  · rw [List.length_set]
    exact blk_far G (blk_ne G hq (by decide)) _
  · have := (Kd.R_putg hR (i : Int) x).1
    rw [Int.toNat_natCast] at this
    rw [List.length_set]
    exact this
theorem slikq_far {W : World} {B g q : Nat} {lik : List Int} (h : SLikQ W B g q lik) {b : Nat} {cs : Array Value} {t : TypeId} (hb : W.heap[b]? = some (.cells cs t (0, 0))) (h1 : 3 ≠ t) (h2 : 110 ≠ t) (i : Nat) (u : Value) : SLikQ (W.setCell ⟨b, i, none⟩ u) B g q lik := by
  obtain ⟨hB, c, G, hR⟩ := h
  exact ⟨hB, c, blk_far G (blk_ne G hb h2) _, Kd.R_set hR hb (fun q hq => by rcases List.mem_singleton.1 hq with rfl; exact h1) i u⟩
/-- The reference's reader of bits, at block r; its likelihoods at block g; its bytes came in by w0. -/
def SDecAt (w0 W : World) (r g q : Nat) (bs : List Int) (s : Dec) : Prop :=
  (SLikQ W w0.heap.size g q s.lik ∧ 0 < s.lik.length) ∧ w0.heap.size ≤ r ∧ ∃ A c, W.heap[r]? = some (.cells #[.pointer (some ⟨g, 0, none⟩), .slice A bs.length c, .int .i64 (s.at_ : Int), .int .i64 s.code, .int .i64 s.width] 112 (0, 0)) ∧
    Kd.C (Kd.int .u8) w0 A bs.length bs
theorem sdec_at {w0 W : World} {r g q : Nat} {bs : List Int} {lik : List Int} {code width : Int} {n : Nat} (h : SDecAt w0 W r g q bs ⟨lik, code, width, n⟩) (m : Nat) : SDecAt w0 (W.setCell ⟨r, 2, none⟩ (.int .i64 (m : Int))) r g q bs ⟨lik, code, width, m⟩ := by
  obtain ⟨L, hB, A, c, G, hC⟩ := h
  refine ⟨⟨slikq_far L.1 G (by decide) (by decide) 2 _, L.2⟩, hB, A, c, ?_, hC⟩
  rw [blk_set G 2]
  rfl
theorem sdec_code {w0 W : World} {r g q : Nat} {bs : List Int} {lik : List Int} {code width : Int} {n : Nat} (h : SDecAt w0 W r g q bs ⟨lik, code, width, n⟩) (x : Int) : SDecAt w0 (W.setCell ⟨r, 3, none⟩ (.int .i64 x)) r g q bs ⟨lik, x, width, n⟩ := by
  obtain ⟨L, hB, A, c, G, hC⟩ := h
  refine ⟨⟨slikq_far L.1 G (by decide) (by decide) 3 _, L.2⟩, hB, A, c, ?_, hC⟩
  rw [blk_set G 3]
  rfl
theorem sdec_width {w0 W : World} {r g q : Nat} {bs : List Int} {lik : List Int} {code width : Int} {n : Nat} (h : SDecAt w0 W r g q bs ⟨lik, code, width, n⟩) (x : Int) : SDecAt w0 (W.setCell ⟨r, 4, none⟩ (.int .i64 x)) r g q bs ⟨lik, code, x, n⟩ := by
  obtain ⟨L, hB, A, c, G, hC⟩ := h
  refine ⟨⟨slikq_far L.1 G (by decide) (by decide) 4 _, L.2⟩, hB, A, c, ?_, hC⟩
  rw [blk_set G 4]
  rfl
theorem sdec_drewN {w0 W : World} {r g q : Nat} {bs : List Int} {s : Dec} (h : SDecAt w0 W r g q bs s) (n : Nat) : SDecAt w0 (W.drewN n) r g q bs s := h
theorem sdec_drew {w0 W : World} {r g q : Nat} {bs : List Int} {s : Dec} (h : SDecAt w0 W r g q bs s) : SDecAt w0 W.drew r g q bs s := h
theorem sdec_cells {w0 W : World} {r g q : Nat} {bs : List Int} {lik : List Int} {code width : Int} {n : Nat} (h : SDecAt w0 W r g q bs ⟨lik, code, width, n⟩) :
    ∃ A c, W.cell? ⟨r, 0, none⟩ = some (.pointer (some ⟨g, 0, none⟩)) ∧ W.cell? ⟨r, 1, none⟩ = some (.slice A bs.length c) ∧ W.cell? ⟨r, 2, none⟩ = some (.int .i64 (n : Int)) ∧ W.cell? ⟨r, 3, none⟩ = some (.int .i64 code) ∧ W.cell? ⟨r, 4, none⟩ = some (.int .i64 width) ∧ W.frozen? ⟨r, 2, none⟩ = false ∧ W.frozen? ⟨r, 3, none⟩ = false ∧ W.frozen? ⟨r, 4, none⟩ = false ∧ w0.heap.size ≤ r ∧ Kd.C (Kd.int .u8) w0 A bs.length bs := by
  obtain ⟨L, hB, A, c, G, hC⟩ := h
  exact ⟨A, c, (blk_cell G 0).trans rfl, (blk_cell G 1).trans rfl, (blk_cell G 2).trans rfl, (blk_cell G 3).trans rfl, (blk_cell G 4).trans rfl, blk_frozen G 2, blk_frozen G 3, blk_frozen G 4, hB, hC⟩
set_option maxHeartbeats 4000000 in
set_option maxRecDepth 100000 in
theorem sNext_calls (r g q : Nat) (bs : List Int) (lik : List Int) (code width : Int) (n : Nat) (w0 W : World) (h : SDecAt w0 W r g q bs ⟨lik, code, width, n⟩) (hb : Below w0.heap.size w0 W) (hbs : BytesOk bs) (hn : n ≤ 1000000000) :
    Calls Try.prog 104 #[.pointer (some ⟨r, 0, none⟩)] W fun e w' => e = .returned (.int .i64 (byteAt bs n)) ∧ SDecAt w0 w' r g q bs ⟨lik, code, width, n + 1⟩ ∧ Below w0.heap.size W w' ∧ KeepBut W w' r (some q) := by
  have HD := Aside0.mk h
  obtain ⟨A, c, h0, h1, h2, h3, h4, f2, f3, f4, hr, hC⟩ := sdec_cells h
  have HR := Aside0.mk hr
  have HB := Aside0.mk hb
  clear h h0 h3 h4 f3 f4 hb
  by_cases hlt : n < bs.length
  · have hli : (n : Int) < (bs.length : Int) := by omega
    have hx0 := hbs _ (List.getElem_mem hlt)
    have HBY := Aside0.mk (show byteAt bs n = bs[n] from by unfold byteAt; rw [if_pos hlt, rd_nat hlt])
    rw [HBY.out]
    clear HBY
    obtain ⟨ad, e, hx⟩ := Kd.at_int hC (n : Int) (by omega) hli
    subst e
    rw [rd_nat hlt, Int.toNat_natCast] at hx
    replace hx := pw_cell_below HB.out hx
    obtain ⟨y, HY⟩ : ∃ y, Aside0 (y = bs[n]) := ⟨_, ⟨rfl⟩⟩
    rw [← HY.out] at hx hx0 ⊢
    obtain ⟨hx0, hx1⟩ := hx0
    clear HY hC hbs
    go_enter Try.func104, Try.ntmps104
    go_wp2
    go_quiet (fail)
    go_wp2
    go_quiet (fail)
    go_wp2
    go_ret
    exact ⟨rfl, sdec_at (sdec_drewN HD.out _) (n + 1), (pw_below_drewN (Below.refl _ _) _).setCell HR.out _, (show KeepBut W (W.drewN _) r (some q) from KeepBut.refl _ _ _).set_ _ _⟩
  · have hli : ¬ (n : Int) < (bs.length : Int) := by omega
    have HBY := Aside0.mk (show byteAt bs n = 0 from by unfold byteAt; rw [if_neg hlt])
    rw [HBY.out]
    clear HBY hC hbs
    go_enter Try.func104, Try.ntmps104
    go_wp2
    go_quiet (fail)
    go_wp2
    go_ret
    exact ⟨rfl, sdec_at (sdec_drewN HD.out _) (n + 1), (pw_below_drewN (Below.refl _ _) _).setCell HR.out _, (show KeepBut W (W.drewN _) r (some q) from KeepBut.refl _ _ _).set_ _ _⟩

/-! ### spec_l09Reader: function 69 (by hand) -/
def SGotReader (w0 W : World) (bs : List Int) (e : Ending) (w' : World) : Prop := ∃ r g q, e = .returned (.pointer (some ⟨r, 0, none⟩)) ∧ SDecAt w0 w' r g q bs (startD bs) ∧ Below w0.heap.size w0 w' ∧ W.heap.size ≤ r ∧ W.heap.size ≤ q ∧ KeepBut W w' r (some q)
theorem slikq_base {W : World} {B B' g q : Nat} {lik : List Int} (h : SLikQ W B g q lik) (hb : B' ≤ B) : SLikQ W B' g q lik := by
  obtain ⟨hB, c, G, hR⟩ := h
  exact ⟨Nat.le_trans hb hB, c, G, Kd.R_lower hR hb⟩
theorem slikq_alloc {W : World} {B g q : Nat} {lik : List Int} (h : SLikQ W B g q lik) (o : Obj) : SLikQ (W.alloc o) B g q lik := by
  obtain ⟨hB, c, G, hR⟩ := h
  have hb := below_alloc (Below.refl W.heap.size W) o
  exact ⟨hB, c, (hb.block g (blk_lt G)).trans G, Kd.R_below hR hb⟩
set_option maxHeartbeats 4000000 in
set_option maxRecDepth 100000 in
theorem sReader_calls (A : Option Addr) (c : Nat) (bs : List Int) (w0 W : World) (hr : Kd.C (Kd.int .u8) w0 A bs.length bs) (hb : Below w0.heap.size w0 W) (hbs : BytesOk bs) :
    Calls Try.prog 69 #[.slice A bs.length c] W (SGotReader w0 W bs) := by
  have HR := Aside0.mk hr
  have HB := Aside0.mk hb
  have HBS := Aside0.mk hbs
  clear hr hb hbs
  go_enter Try.func69, Try.ntmps69
  go_wp2_with (go_at_call 101; (with_reducible refine (sNew_calls _).mono ?_); rintro e w1 ⟨g, rfl, hlk, hb⟩; obtain ⟨q, hlq⟩ := slikq_of hlk (show 0 < likL.length from by decide); have HLK := Aside0.mk (slikq_base hlq (below_size HB.out)); have HRQ := Aside0.mk (show W.heap.size ≤ w1.heap.size ∧ W.heap.size ≤ q from ⟨hb.size, (slikq_blk hlq (show 0 < likL.length from by decide)).choose_spec.2⟩); have HB1 := Aside0.mk (below_step HB.out hb); have HBX := Aside0.mk hb; clear hlk hb hlq)
  obtain ⟨W2, HW2⟩ : ∃ W2, Aside0 (W2 = w1.alloc (.cells #[.pointer (some ⟨g, 0, none⟩), .slice A bs.length c, .int .i64 0, .int .i64 0, .int .i64 4294967295] 112)) := ⟨_, ⟨rfl⟩⟩
  have HD := Aside0.mk (show SDecAt w0 W2 w1.heap.size g q bs ⟨likL, numAt bs 0, 4294967295, 0⟩ from by
    rw [HW2.out]
    exact ⟨⟨slikq_alloc HLK.out _, show 0 < likL.length from by decide⟩, below_size HB1.out, A, c, blk_new w1 _, HR.out⟩)
  have HB2 := Aside0.mk (show Below w0.heap.size w0 W2 from by rw [HW2.out]; exact below_alloc HB1.out _)
  obtain ⟨r, HRR⟩ : ∃ r, Aside0 (r = w1.heap.size) := ⟨_, ⟨rfl⟩⟩
  have HKB := Aside0.mk (show KeepBut W W2 r (some q) from by rw [HW2.out]; exact KeepBut.of_below (below_alloc HBX.out _) _ _)
  rw [← HRR.out] at HD HRQ
  rw [← HW2.out, ← HRR.out]
  clear HW2 HB HB1 HLK HRR HBX
  go_loopg [4] 4 (fun kq v4 w' => ∃ (k : Nat), v4 = .int .i64 (k : Int) ∧ Aside0 (k + kq = 4) ∧ Aside0 (SDecAt w0 w' r g q bs ⟨likL, numAt bs k, 4294967295, k⟩) ∧ Aside0 (Below w0.heap.size w0 w') ∧ Aside0 (KeepBut W w' r (some q)))
  case atStart => exact ⟨0, rfl, ⟨rfl⟩, HD, HB2, HKB⟩
  case round =>
    clear HD HB2 HKB
    obtain ⟨k, rfl, HQ, HD, HB, HKB⟩ := hrel
    by_cases hk : k < 4
    · have hk2 : (k : Int) < 4 := by omega
      have hnr := numAt_range HBS.out k
      have hn1 : numAt bs k ≤ 16777215 := by
        obtain rfl | rfl | rfl | rfl : k = 0 ∨ k = 1 ∨ k = 2 ∨ k = 3 := by omega
        all_goals have := hnr.2; omega
      have hn0 : 0 ≤ numAt bs k := hnr.1
      have hby := byteAt_range HBS.out k
      have HNX := Aside0.mk (show numAt bs (k + 1) = 256 * numAt bs k + byteAt bs k from rfl)
      clear hnr
      obtain ⟨hb0, hb1⟩ := hby
      generalize HM : numAt bs k = m at hn0 hn1 HNX HD
      generalize HY : byteAt bs k = y at hb0 hb1 HNX
      have HY2 := Aside0.mk HY
      have hkk : k ≤ 1000000000 := by omega
      clear HM HY
      go_wp2_with (go_at_call 104; (with_reducible refine (sNext_calls r g q bs likL m 4294967295 k w0 _ HD.out HB.out HBS.out hkk).mono ?_); rintro e W3 ⟨rfl, d3, b3, k3⟩; rw [HY2.out]; have HKB3 := Aside0.mk (KeepBut.trans HKB.out k3 (.inl rfl)); clear k3; have D3 := Aside0.mk d3; have B3 := Aside0.mk (HB.out.trans b3); clear d3 b3; obtain ⟨A3, c3, g0, g1, g2, g3, g4, e2, e3, e4, hr3, -⟩ := sdec_cells D3.out)
      go_roundg (4 - (k + 1))
      case measure => have := HQ.out; omega
      case rel => exact ⟨k + 1, by first | rfl | go_num | simp, ⟨by have := HQ.out; omega⟩, ⟨by rw [HNX.out]; exact sdec_code D3.out _⟩, ⟨B3.out.setCell hr3 _⟩, ⟨HKB3.out.set_ _ _⟩⟩
    · have hk2 : ¬ (k : Int) < 4 := by omega
      have e := HQ.out
      obtain rfl : k = 4 := by omega
      clear e
      go_wp2
      go_ret
      exact ⟨r, g, q, rfl, by rw [← numAt_start]; exact HD.out, HB.out, HRQ.out.1, HRQ.out.2, HKB.out⟩

/-! ### spec_l09In_bit: function 70 (by hand) -/
theorem sdec_lik {w0 W : World} {r g q : Nat} {bs : List Int} {lik : List Int} {code width : Int} {n : Nat} (h : SDecAt w0 W r g q bs ⟨lik, code, width, n⟩) (i : Nat) (x : Int) :
    SDecAt w0 (W.setCell ⟨q, i, none⟩ (.int .i64 x)) r g q bs ⟨lik.set i x, code, width, n⟩ := by
  obtain ⟨L, hB, A, c0, G, hC⟩ := h
  obtain ⟨cs, hq, hqB⟩ := slikq_blk L.1 L.2
  exact ⟨⟨slikq_set L.1 L.2 i x, by show 0 < (lik.set i x).length; rw [List.length_set]; exact L.2⟩, hB, A, c0, blk_far G (blk_ne G hq (by decide)) _, hC⟩
set_option maxHeartbeats 4000000 in
set_option maxRecDepth 100000 in
theorem sBit_calls (r g q : Nat) (bs : List Int) (lik : List Int) (code width : Int) (n ctx : Nat) (w0 W : World) (h : SDecAt w0 W r g q bs ⟨lik, code, width, n⟩) (hs : DecOk ⟨lik, code, width, n⟩) (hc : ctx < 400) (hb : Below w0.heap.size w0 W) (hbs : BytesOk bs) (hn : n ≤ 1000000000) :
    Calls Try.prog 70 #[.pointer (some ⟨r, 0, none⟩), .int .i64 ctx] W fun e w' => e = .returned (.int .i64 (bitD ⟨lik, code, width, n⟩ ctx)) ∧ SDecAt w0 w' r g q bs (stepD bs ⟨lik, code, width, n⟩ ctx) ∧ Below w0.heap.size w0 w' ∧ KeepBut W w' r (some q) := by
  have hc0 : 0 ≤ code := hs.c0
  have hc1 : code ≤ 4294967295 := hs.c1
  have hw0 : 16777216 ≤ width := hs.w0
  have hw1 : width ≤ 4294967295 := hs.w1
  have hlk : LikOk lik := hs.lik
  have hr := lik_rd hlk (c := (ctx : Int)) (by omega) (by omega)
  have hpr := partE_range hlk hw0 (ctx := (ctx : Int)) (by omega) (by omega)
  have HD0 := Aside0.mk h
  have HB := Aside0.mk hb
  have HBS := Aside0.mk hbs
  obtain ⟨A, c, h0, h1, h2, h3, h4, f2, f3, f4, hrB, -⟩ := sdec_cells h
  obtain ⟨d0, k0, hx, hfx, -, -⟩ := slikq_cell h.1.1 ctx (show ctx < lik.length from by rw [hlk.1]; exact hc)
  replace k0 : W.cell? ⟨g, 0, none⟩ = some (.slice (some ⟨q, 0, none⟩) lik.length d0) := k0
  replace hx : W.cell? ⟨q, ctx, none⟩ = some (.int .i64 (rd lik (ctx : Int))) := hx
  have HCL := Aside0.mk (show ctx < lik.length from by rw [hlk.1]; exact hc)
  have hcl1 : (ctx : Int) < (lik.length : Int) := by have := HCL.out; omega
  have hcl2 : ctx < lik.length := HCL.out
  obtain ⟨x, HX⟩ : ∃ x, Aside0 (x = rd lik (ctx : Int)) := ⟨_, ⟨rfl⟩⟩
  rw [← HX.out] at hr hx
  obtain ⟨pt, HPT⟩ : ∃ pt, Aside0 (pt = partE lik width (ctx : Int)) := ⟨_, ⟨rfl⟩⟩
  rw [← HPT.out] at hpr
  have hmul : wrap64 (width / 4096 * x) = pt := by
    have e : width / 4096 * x = pt := by rw [HPT.out, HX.out]; rfl
    rw [e]
    exact w64 (by omega) (by omega)
  have hmul2 : IntKind.i64.wrap (width / 4096 * x) = pt := (i64_w _).trans hmul
  obtain ⟨hr0, hr1⟩ := hr
  obtain ⟨hp0, hp1⟩ := hpr
  clear hlk h hb hbs
  by_cases hcmp : code < pt
  · have HBD := Aside0.mk (show bitD ⟨lik, code, width, n⟩ ctx = 0 from by unfold bitD; simp only []; rw [← HPT.out, if_pos hcmp])
    have HCD := Aside0.mk (show codeD ⟨lik, code, width, n⟩ ctx = code from by unfold codeD; simp only []; rw [← HPT.out, if_pos hcmp])
    have HWD := Aside0.mk (show widthD ⟨lik, code, width, n⟩ ctx = pt from by unfold widthD; simp only []; rw [← HPT.out, if_pos hcmp])
    go_enter Try.func70, Try.ntmps70
    go_wp2
    go_quiet (fail)
    go_wp2_with fail
    obtain ⟨W1, HW1⟩ : ∃ W1, Aside0 (W1 = (W.drewN nq).setCell ⟨r, 4, none⟩ (.int .i64 pt)) := ⟨_, ⟨rfl⟩⟩
    have D1 := Aside0.mk (show SDecAt w0 W1 r g q bs ⟨lik, code, pt, n⟩ from by rw [HW1.out]; exact sdec_width (sdec_drewN HD0.out _) pt)
    have B1 := Aside0.mk (show Below w0.heap.size w0 W1 from by rw [HW1.out]; exact (pw_below_drewN HB.out _).setCell hrB _)
    have K1 := Aside0.mk (show KeepBut W W1 r (some q) from by rw [HW1.out]; exact (show KeepBut W (W.drewN nq) r (some q) from KeepBut.refl _ _ _).set_ _ _)
    rw [← HW1.out]
    clear HW1 h0 h1 h2 h3 h4 f2 f3 f4 k0 hx hfx
    obtain ⟨A1, c1, h0, h1, h2, h3, h4, f2, f3, f4, -, -⟩ := sdec_cells D1.out
    obtain ⟨d1, k0, hx, hfx, hql, hqB⟩ := slikq_cell D1.out.1.1 ctx HCL.out
    have HX2 := Aside0.mk (show W1.cell? ⟨g, 0, none⟩ = some (.slice (some ⟨q, 0, none⟩) lik.length d1) from k0)
    replace hx : W1.cell? ⟨q, ctx, none⟩ = some (.int .i64 (rd lik (ctx : Int))) := hx
    rw [← HX.out] at hx
    refine (sLearn_calls g q d1 lik.length ctx x 0 _ k0 hx hfx hr0 hr1 HCL.out).mono ?_
    rintro e w' ⟨rfl, ⟨nl, rfl⟩⟩
    obtain ⟨W2, HW2⟩ : ∃ W2, Aside0 (W2 = (W1.setCell ⟨q, ctx, none⟩ (.int .i64 (learnP x 0))).drewN nl) := ⟨_, ⟨rfl⟩⟩
    have D2 := Aside0.mk (show SDecAt w0 W2 r g q bs ⟨learnL lik ctx 0, code, pt, n⟩ from by
      rw [HW2.out]
      have := sdec_lik D1.out ctx (learnP x 0)
      rw [HX.out] at this ⊢
      exact sdec_drewN this _)
    have B2 := Aside0.mk (show Below w0.heap.size w0 W2 from by rw [HW2.out]; exact pw_below_drewN (B1.out.setCell hqB _) _)
    have K2 := Aside0.mk (show KeepBut W W2 r (some q) from by rw [HW2.out]; exact keep_row K1.out _ _)
    rw [← HW2.out]
    clear HW2 h0 h1 h2 h3 h4 f2 f3 f4 D1 B1 K1 k0 hx hfx HX2 hql hqB
    go_wp2
    obtain ⟨A2, c2, h0, h1, h2, h3, h4, f2, f3, f4, -, -⟩ := sdec_cells D2.out
    by_cases hsm : pt < 16777216
    · have HE := Aside0.mk (show stepD bs ⟨lik, code, width, n⟩ ctx = ⟨learnL lik ctx 0, code % 16777216 * 256 + byteAt bs n, pt * 256, n + 1⟩ from by
        unfold stepD
        rw [HWD.out, HBD.out, HCD.out, if_pos hsm])
      have hby := byteAt_range HBS.out n
      obtain ⟨y, HY⟩ : ∃ y, Aside0 (byteAt bs n = y) := ⟨_, ⟨rfl⟩⟩
      rw [HY.out] at hby HE
      obtain ⟨hy0, hy1⟩ := hby
      have hq0 : 0 ≤ code % 16777216 := by omega
      have hq1 : code % 16777216 ≤ 16777215 := by omega
      have hq2 : 16777216 ≤ 256 * pt := by omega
      have hq3 : 256 * pt ≤ 4294967296 := by omega
      refine wp_loop_rounds 2 ?_
      rw [rounds_succ]
      go_wp2_with (go_at_call 104; (with_reducible refine (sNext_calls r g q bs (learnL lik ctx 0) (code) (pt) n w0 _ D2.out B2.out HBS.out hn).mono ?_); rintro e W3 ⟨rfl, d3, b3, k3⟩; rw [HY.out]; have D3 := Aside0.mk d3; have K3 := Aside0.mk (KeepBut.trans K2.out k3 (.inl rfl)); clear k3; have B3 := Aside0.mk (B2.out.trans b3); clear d3 b3; obtain ⟨A3, c3, g0, g1, g2, g3, g4, e2, e3, e4, -, -⟩ := sdec_cells D3.out)
      rw [rounds_succ]
      go_wp2
      go_ret
      exact ⟨by rw [HBD.out] <;> rfl, by rw [HE.out, Int.mul_comm (pt) 256]; exact sdec_width (sdec_code D3.out _) _, (B3.out.setCell hrB _).setCell hrB _, (K3.out.set_ _ _).set_ _ _⟩
    · have HE := Aside0.mk (show stepD bs ⟨lik, code, width, n⟩ ctx = ⟨learnL lik ctx 0, code, pt, n⟩ from by
        unfold stepD
        rw [HWD.out, HBD.out, HCD.out, if_neg hsm])
      have hq2 : 16777216 ≤ pt := by omega
      refine wp_loop_rounds 1 ?_
      rw [rounds_succ]
      go_wp2
      go_ret
      exact ⟨by rw [HBD.out] <;> rfl, by rw [HE.out]; exact D2.out, B2.out, K2.out⟩
  · have HBD := Aside0.mk (show bitD ⟨lik, code, width, n⟩ ctx = 1 from by unfold bitD; simp only []; rw [← HPT.out, if_neg hcmp])
    have HCD := Aside0.mk (show codeD ⟨lik, code, width, n⟩ ctx = code - pt from by unfold codeD; simp only []; rw [← HPT.out, if_neg hcmp])
    have HWD := Aside0.mk (show widthD ⟨lik, code, width, n⟩ ctx = width - pt from by unfold widthD; simp only []; rw [← HPT.out, if_neg hcmp])
    have hge : pt ≤ code := by omega
    go_enter Try.func70, Try.ntmps70
    go_wp2
    go_quiet (fail)
    go_wp2_with fail
    obtain ⟨W1, HW1⟩ : ∃ W1, Aside0 (W1 = ((W.drewN nq).setCell ⟨r, 3, none⟩ (.int .i64 (code - pt))).setCell ⟨r, 4, none⟩ (.int .i64 (width - pt))) := ⟨_, ⟨rfl⟩⟩
    have D1 := Aside0.mk (show SDecAt w0 W1 r g q bs ⟨lik, (code - pt), (width - pt), n⟩ from by rw [HW1.out]; exact sdec_width (sdec_code (sdec_drewN HD0.out _) _) _)
    have B1 := Aside0.mk (show Below w0.heap.size w0 W1 from by rw [HW1.out]; exact ((pw_below_drewN HB.out _).setCell hrB _).setCell hrB _)
    have K1 := Aside0.mk (show KeepBut W W1 r (some q) from by rw [HW1.out]; exact ((show KeepBut W (W.drewN nq) r (some q) from KeepBut.refl _ _ _).set_ _ _).set_ _ _)
    rw [← HW1.out]
    clear HW1 h0 h1 h2 h3 h4 f2 f3 f4 k0 hx hfx
    obtain ⟨A1, c1, h0, h1, h2, h3, h4, f2, f3, f4, -, -⟩ := sdec_cells D1.out
    obtain ⟨d1, k0, hx, hfx, hql, hqB⟩ := slikq_cell D1.out.1.1 ctx HCL.out
    have HX2 := Aside0.mk (show W1.cell? ⟨g, 0, none⟩ = some (.slice (some ⟨q, 0, none⟩) lik.length d1) from k0)
    replace hx : W1.cell? ⟨q, ctx, none⟩ = some (.int .i64 (rd lik (ctx : Int))) := hx
    rw [← HX.out] at hx
    refine (sLearn_calls g q d1 lik.length ctx x 1 _ k0 hx hfx hr0 hr1 HCL.out).mono ?_
    rintro e w' ⟨rfl, ⟨nl, rfl⟩⟩
    obtain ⟨W2, HW2⟩ : ∃ W2, Aside0 (W2 = (W1.setCell ⟨q, ctx, none⟩ (.int .i64 (learnP x 1))).drewN nl) := ⟨_, ⟨rfl⟩⟩
    have D2 := Aside0.mk (show SDecAt w0 W2 r g q bs ⟨learnL lik ctx 1, (code - pt), (width - pt), n⟩ from by
      rw [HW2.out]
      have := sdec_lik D1.out ctx (learnP x 1)
      rw [HX.out] at this ⊢
      exact sdec_drewN this _)
    have B2 := Aside0.mk (show Below w0.heap.size w0 W2 from by rw [HW2.out]; exact pw_below_drewN (B1.out.setCell hqB _) _)
    have K2 := Aside0.mk (show KeepBut W W2 r (some q) from by rw [HW2.out]; exact keep_row K1.out _ _)
    rw [← HW2.out]
    clear HW2 h0 h1 h2 h3 h4 f2 f3 f4 D1 B1 K1 k0 hx hfx HX2 hql hqB
    go_wp2
    obtain ⟨A2, c2, h0, h1, h2, h3, h4, f2, f3, f4, -, -⟩ := sdec_cells D2.out
    by_cases hsm : (width - pt) < 16777216
    · have HE := Aside0.mk (show stepD bs ⟨lik, code, width, n⟩ ctx = ⟨learnL lik ctx 1, (code - pt) % 16777216 * 256 + byteAt bs n, (width - pt) * 256, n + 1⟩ from by
        unfold stepD
        rw [HWD.out, HBD.out, HCD.out, if_pos hsm])
      have hby := byteAt_range HBS.out n
      obtain ⟨y, HY⟩ : ∃ y, Aside0 (byteAt bs n = y) := ⟨_, ⟨rfl⟩⟩
      rw [HY.out] at hby HE
      obtain ⟨hy0, hy1⟩ := hby
      have hq0 : 0 ≤ (code - pt) % 16777216 := by omega
      have hq1 : (code - pt) % 16777216 ≤ 16777215 := by omega
      have hq2 : 16777216 ≤ 256 * (width - pt) := by omega
      have hq3 : 256 * (width - pt) ≤ 4294967296 := by omega
      refine wp_loop_rounds 2 ?_
      rw [rounds_succ]
      go_wp2_with (go_at_call 104; (with_reducible refine (sNext_calls r g q bs (learnL lik ctx 1) ((code - pt)) ((width - pt)) n w0 _ D2.out B2.out HBS.out hn).mono ?_); rintro e W3 ⟨rfl, d3, b3, k3⟩; rw [HY.out]; have D3 := Aside0.mk d3; have K3 := Aside0.mk (KeepBut.trans K2.out k3 (.inl rfl)); clear k3; have B3 := Aside0.mk (B2.out.trans b3); clear d3 b3; obtain ⟨A3, c3, g0, g1, g2, g3, g4, e2, e3, e4, -, -⟩ := sdec_cells D3.out)
      rw [rounds_succ]
      go_wp2
      go_ret
      exact ⟨by rw [HBD.out] <;> rfl, by rw [HE.out, Int.mul_comm ((width - pt)) 256]; exact sdec_width (sdec_code D3.out _) _, (B3.out.setCell hrB _).setCell hrB _, (K3.out.set_ _ _).set_ _ _⟩
    · have HE := Aside0.mk (show stepD bs ⟨lik, code, width, n⟩ ctx = ⟨learnL lik ctx 1, (code - pt), (width - pt), n⟩ from by
        unfold stepD
        rw [HWD.out, HBD.out, HCD.out, if_neg hsm])
      have hq2 : 16777216 ≤ (width - pt) := by omega
      refine wp_loop_rounds 1 ?_
      rw [rounds_succ]
      go_wp2
      go_ret
      exact ⟨by rw [HBD.out] <;> rfl, by rw [HE.out]; exact D2.out, B2.out, K2.out⟩

/-! ### spec_DecodeBins: function 25 (by hand) -/
theorem sdec_grown {w0 W W1 : World} {r g q : Nat} {bs : List Int} {s : Dec} {B : Nat} {v : Value} {ys : List Int} (h : SDecAt w0 W r g q bs s) (hR : Kd.R (Kd.int .i64) 3 W B (fun j => j ≠ r ∧ j ≠ q) v ys) (hg : W.grownBy W1 v.ownBlock) : SDecAt w0 W1 r g q bs s := by
  obtain ⟨L, hB, A, c, G, h2⟩ := h
  obtain ⟨cs, hq, hqB⟩ := slikq_blk L.1 L.2
  have hqv : some q ≠ v.ownBlock := fun e => (hR.1 q e.symm).2 rfl
  obtain ⟨⟨gB, cg, GG, RR⟩, Ll⟩ := L
  refine ⟨⟨⟨gB, cg, blk_grown GG hg (Kd.R_ne hR GG (by decide)), ?_⟩, Ll⟩, hB, A, c, blk_grown G hg (Kd.R_ne hR G (by decide)), h2⟩
  obtain ⟨f1, cells, f2, f3⟩ := RR
  exact Kd.R_mono (Kd.R_step (Kd.R_bound (ok := fun j => j = q) ⟨fun k hk => by injection hk with hk; exact hk.symm, cells, f2, f3⟩) (fun k hk hlt => hg.block k hlt (by rw [hk.1]; exact hqv))) (fun _ _ => trivial)
theorem sout_keep {W W1 : World} {r q e B : Nat} {v : Value} {ys : List Int} (h : Kd.R (Kd.int .i64) e W B (fun j => j ≠ r ∧ j ≠ q) v ys) (hk : KeepBut W W1 r (some q)) : Kd.R (Kd.int .i64) e W1 B (fun j => j ≠ r ∧ j ≠ q) v ys :=
  Kd.R_step h (fun k ho hlt => hk.2 k hlt ho.1 (fun e => ho.2 (Option.some.inj e)))
theorem sdec_above {w0 W : World} {r g q : Nat} {bs : List Int} {s : Dec} (h : SDecAt w0 W r g q bs s) : ∀ k, W.heap.size ≤ k → k ≠ r ∧ k ≠ q := by
  obtain ⟨L, hB, A, c, G, h2⟩ := h
  obtain ⟨cs, hq, hqB⟩ := slikq_blk L.1 L.2
  have := blk_lt hq
  have := blk_lt G
  omega
theorem lit_int0 (w : World) (e : Nat) : Kd.R (Kd.int .i64) e (w.alloc (.cells #[] e)) w.heap.size (fun j => j = w.heap.size) (.slice (some ⟨w.heap.size, 0, none⟩) 0 0) [] := by
  have := World.ownsRow_lit (base := w.heap.size) (e := e) (size := 1) w #[] 0 (Nat.le_refl _) (by decide) (by simp)
  exact ⟨fun k hk => by injection hk with hk; exact hk.symm, [], this, Reps.none _ _⟩
def spec_DecodeBins.f (l0 l1 : List Int) : Option (List Int) := if bytesB l0 = true ∧ l0.length ≤ 4611686018427387904 ∧ l1.length ≤ 4611686018427387904 then some (decodeI l0 l1) else none
set_option maxHeartbeats 4000000 in
set_option maxRecDepth 100000 in
theorem spec_DecodeBins.calls (A0 : Option Addr) (c0 : Nat) (l0 : List Int) (A1 : Option Addr) (c1 : Nat) (l1 : List Int) (r : List Int) (w : World) (hr0 : Kd.C (Kd.int .u8) w A0 l0.length l0) (hc0 : l0.length ≤ c0) (hr1 : Kd.C (Kd.int .i64) w A1 l1.length l1) (hc1 : l1.length ≤ c1) (h : spec_DecodeBins.f l0 l1 = some r) :
    Calls Try.prog 25 #[.slice A0 l0.length c0, .slice A1 l1.length c1] w fun e w' => ∃ v0_ : Value, e = .returned (v0_) ∧ Kd.R (Kd.int .i64) 3 w' w.heap.size (fun _ => True) v0_ r ∧ Below w.heap.size w w' := by
  unfold spec_DecodeBins.f at h
  by_cases hl : bytesB l0 = true ∧ l0.length ≤ 4611686018427387904 ∧ l1.length ≤ 4611686018427387904
  · rw [if_pos hl] at h
    obtain rfl := Option.some.inj h
    clear h
    have HBS := Aside0.mk (bytesB_ok hl.1)
    have HR0 := Aside0.mk hr0
    have HR1 := Aside0.mk hr1
    have hd0 : l0.length ≤ 4611686018427387904 := hl.2.1
    have hd1 : l1.length ≤ 4611686018427387904 := hl.2.2
    clear hr0 hr1 hc0 hc1 hl
    have HL0 := Aside0.mk (lit_int0 w 3)
    have HBA := Aside0.mk (below_alloc (Below.refl w.heap.size w) (.cells #[] 3))
    by_cases h2 : l1.length ≤ 200000
    · have d2 : ¬ 200000 < (l1.length : Int) := by omega
      have HE := Aside0.mk (show decodeI l0 l1 = if allR l1 0 399 = true then outK l0 l1 l1.length else [] from by unfold decodeI outK decL; rw [decide_eq_true h2, Bool.true_and, List.take_length])
      go_enter Try.func25, Try.ntmps25
      go_wp2
      obtain ⟨WA, HWA⟩ : ∃ WA, Aside0 (WA = w.alloc (.cells #[] 3)) := ⟨_, ⟨rfl⟩⟩
      rw [← HWA.out] at HL0 HBA
      rw [← HWA.out]
      have HSZ0 := Aside0.mk (show w.heap.size < WA.heap.size from by rw [HWA.out]; exact blk_lt (blk_new w _))
      clear HWA
      go_loopg [6] l1.length (fun kq v6 w' => ∃ (k : Nat), v6 = .int .i64 (k : Int) ∧ Aside0 (k + kq = l1.length ∧ allR (l1.take k) 0 399 = true) ∧ Aside0 (Drawn0 WA w'))
      case atStart => exact ⟨0, rfl, ⟨by omega, rfl⟩, ⟨Drawn0.refl _⟩⟩
      case round =>
        obtain ⟨k, rfl, HQ, HD⟩ := hrel
        by_cases hk : k < l1.length
        · have hki : (k : Int) < (l1.length : Int) := by omega
          obtain ⟨ad, rfl, hx⟩ := Kd.at_int HR1.out (k : Int) (by omega) hki
          rw [rd_nat hk, Int.toNat_natCast] at hx
          replace hx := pw_cell_below HBA.out hx
          replace hx := pw_cell_below HD.out.below hx
          have HT := Aside0.mk (show allR (l1.take (k + 1)) 0 399 = inR l1[k] 0 399 from by unfold allR at *; rw [List.take_succ_eq_append_getElem hk, List.all_append, HQ.out.2]; simp)
          have HAL := Aside0.mk (show allR l1 0 399 = true → inR l1[k] 0 399 = true from fun h => List.all_eq_true.1 h _ (List.getElem_mem hk))
          obtain ⟨x0, X0⟩ : ∃ x, Aside0 (x = l1[k]) := ⟨_, ⟨rfl⟩⟩
          rw [← X0.out] at hx HT HAL
          by_cases c0 : inR x0 0 399 = true
          · have C0 := Aside0.mk c0
            clear c0
            go_wp2_with (go_at_call 58; (with_reducible refine (boolCall (between_calls x0 0 399 _) C0.out).mono ?_); rintro e w' ⟨rfl, ⟨nd, rfl⟩⟩)
            go_roundg (l1.length - (k + 1))
            case measure => have := HQ.out.1; omega
            case rel =>
              exact ⟨k + 1, by first | rfl | go_num | simp, ⟨by have := HQ.out.1; omega, by rw [HT.out]; exact C0.out⟩, ⟨by repeat (first | exact HD.out | apply Drawn0.step)⟩⟩
          · have C0 := Aside0.mk (Bool.eq_false_iff.2 c0)
            have HZ := Aside0.mk (show decodeI l0 l1 = [] from by rw [HE.out, if_neg (fun h => by have h2 := HAL.out h; rw [C0.out] at h2; exact absurd h2 (by simp))])
            clear c0 HE HAL
            go_wp2_with (go_at_call 58; (with_reducible refine (boolCall (between_calls x0 0 399 _) C0.out).mono ?_); rintro e w' ⟨rfl, ⟨nd, rfl⟩⟩)
            go_ret
            have HDN := Aside0.mk (show Below WA.heap.size WA wr from HD.out.below)
            exact ⟨_, rfl, by rw [HZ.out]; exact Kd.R_mono (Kd.R_below HL0.out (pw_below_drewN HDN.out _)) (fun _ _ => trivial), below_step HBA.out (pw_below_drewN HDN.out _)⟩
        · have hki : ¬ (k : Int) < (l1.length : Int) := by omega
          have e := HQ.out.1
          obtain rfl : k = l1.length := by omega
          clear e
          have ha : allR l1 0 399 = true := by have := HQ.out.2; rw [List.take_length] at this; exact this
          have HW := Aside0.mk (within_of ha)
          have HEE := Aside0.mk (show decodeI l0 l1 = outK l0 l1 l1.length from by rw [HE.out, if_pos ha])
          have HB := Aside0.mk (below_step HBA.out HD.out.below)
          have HLD := Aside0.mk (Kd.R_below HL0.out HD.out.below)
          clear HE ha HQ
          have HSZ := Aside0.mk (Nat.lt_of_lt_of_le HSZ0.out HD.out.below.size)
          clear HD
          go_wp2_with (go_at_call 69; (with_reducible refine (sReader_calls A0 c0 l0 w _ HR0.out HB.out HBS.out).mono ?_); rintro e W3 ⟨r, g, q, rfl, hd, hb2, hrq⟩; have HD3 := Aside0.mk (show SDecAt w W3 r g q l0 (stK l0 l1 0) from hd); have HB3 := Aside0.mk hb2; have HO3 := Aside0.mk (show Kd.R (Kd.int .i64) 3 W3 w.heap.size (fun j => j ≠ r ∧ j ≠ q) (.slice (some ⟨w.heap.size, 0, none⟩) 0 0) (outK l0 l1 0) from sout_keep (Kd.R_mono HLD.out (fun k hk => by have := HSZ.out; have h1 := hrq.1; have h2 := hrq.2.1; omega)) hrq.2.2); clear hd hb2 hrq HLD HSZ)
          go_loopg [5, 8] l1.length (fun kq v5 v8 w' => ∃ (k : Nat), v8 = .int .i64 (k : Int) ∧ Aside0 (k + kq = l1.length) ∧ Aside0 (SDecAt w w' r g q l0 (stK l0 l1 k)) ∧ Aside0 (Kd.R (Kd.int .i64) 3 w' w.heap.size (fun j => j ≠ r ∧ j ≠ q) v5 (outK l0 l1 k)) ∧ Aside0 (Below w.heap.size w w'))
          case atStart => exact ⟨0, rfl, ⟨by omega⟩, HD3, HO3, HB3⟩
          case round =>
            clear HD3 HO3 HB3 HB
            obtain ⟨k, rfl, HQ, HD, HO, HB⟩ := hrel
            by_cases hk : k < l1.length
            · have hki : (k : Int) < (l1.length : Int) := by omega
              obtain ⟨ad, rfl, hx⟩ := Kd.at_int HR1.out (k : Int) (by omega) hki
              rw [rd_nat hk, Int.toNat_natCast] at hx
              replace hx := pw_cell_below HB.out hx
              have hxw := HW.out _ (List.getElem_mem hk)
              have hst := stK_ok HBS.out l1 HW.out k (by omega)
              have HT := Aside0.mk (outK_succ l0 l1 hk)
              have HS := Aside0.mk (stK_succ l0 l1 hk)
              have HLN := Aside0.mk (outK_length l0 l1 k (by omega))
              obtain ⟨ctx, HC⟩ := Int.eq_ofNat_of_zero_le hxw.1
              rw [HC] at hx hxw HT HS
              have hc : ctx < 400 := by omega
              clear HC hxw
              generalize stK l0 l1 k = s at HD hst HT HS
              obtain ⟨lik, code, width, n⟩ := s
              have HST := Aside0.mk hst.1
              have hn : n ≤ k + 4 := hst.2
              have hn9 : n ≤ 1000000000 := by omega
              clear hst
              go_wp2_with (first
                | (go_at_call 70; (with_reducible refine (sBit_calls r g q l0 lik code width n ctx w _ HD.out HST.out hc HB.out HBS.out hn9).mono ?_); rintro e W4 ⟨rfl, d4, b4, k4⟩; have HO4 := Aside0.mk (sout_keep HO.out k4); have HD4 := Aside0.mk d4; have HB4 := Aside0.mk b4; clear d4 b4 k4)
                | ((with_reducible refine gate_builtin (b := .append) (xs := #[.tmp 42, .tmp 44]) rfl ?_); at_builtin; refine Kd.R_append (Kd.int .i64) (w0 := w) w.heap.size rfl (.tmp 42) (.tmp 44) 34 3 (.int .i64 0) 8 rfl Try.underlying34 info3 rfl (by decide) (by omega) u5 (outK l0 l1 k) (bitD ⟨lik, code, width, n⟩ ctx) [.int .i64 (bitD ⟨lik, code, width, n⟩ ctx)] (fun j => j ≠ r ∧ j ≠ q) (fun _ => False) rfl rfl ?aP (fun _ hk => hk.elim) ?aF ?aO ?aB ?aS ?aL ?_; (case aP => exact rfl); (case aF => exact sdec_above HD4.out); (case aO => exact HO4.out); (case aB => exact HB4.out); (case aS => exact HB4.out.size); (case aL => rw [HLN.out]; omega); intro v1 w5 ho hb hg hat; have HD5 := Aside0.mk (sdec_grown HD4.out HO4.out hg); have HO5 := Aside0.mk ho; have HB5 := Aside0.mk hb; clear ho hb hg hat))
              go_roundg (l1.length - (k + 1))
              case measure => have := HQ.out; omega
              case rel => exact ⟨k + 1, by first | rfl | go_num | simp, ⟨by have := HQ.out; omega⟩, ⟨by rw [HS.out]; exact HD5.out⟩, ⟨by rw [HT.out]; exact HO5.out⟩, HB5⟩
            · have hki : ¬ (k : Int) < (l1.length : Int) := by omega
              have e := HQ.out
              obtain rfl : k = l1.length := by omega
              clear e
              go_wp2
              go_ret
              exact ⟨_, rfl, by rw [HEE.out]; exact Kd.R_mono HO.out (fun _ _ => trivial), HB.out⟩
    · have d2 : 200000 < (l1.length : Int) := by omega
      have HE := Aside0.mk (show decodeI l0 l1 = [] from by unfold decodeI; rw [decide_eq_false h2, Bool.false_and]; rfl)
      rw [HE.out]
      clear HE h2
      go_enter Try.func25, Try.ntmps25
      go_wp2
      go_ret
      exact ⟨_, rfl, Kd.R_mono HL0.out (fun _ _ => trivial), HBA.out⟩
  · rw [if_neg hl] at h
    cases h
theorem bytesB_wf {l : List Int} (h : ∀ y ∈ l, (Lit.int .u8 y).wf = true) : bytesB l = true := by
  unfold bytesB
  refine List.all_eq_true.2 (fun x hx => ?_)
  have := wf8 (h x hx)
  simp [this]
theorem decodeI_length (b l : List Int) : (decodeI b l).length ≤ 200000 := by
  unfold decodeI
  split
  · rename_i h
    simp only [Bool.and_eq_true, decide_eq_true_eq] at h
    unfold decL
    rw [bitsD_length]
    exact h.1
  · simp
theorem iDecode_f (b l : List Int) (hb : bytesB b = true) (h0 : b.length ≤ 4611686018427387904) (h : l.length ≤ 4611686018427387904) : impl_DecodeBins.f b l = some (decodeI b l) := by unfold impl_DecodeBins.f; rw [if_pos ⟨hb, h0, h⟩]
theorem sDecode_f (b l : List Int) (hb : bytesB b = true) (h0 : b.length ≤ 4611686018427387904) (h : l.length ≤ 4611686018427387904) : spec_DecodeBins.f b l = some (decodeI b l) := by unfold spec_DecodeBins.f; rw [if_pos ⟨hb, h0, h⟩]

end Go.Proofs.Ytdeheflbigggbaa.CD
