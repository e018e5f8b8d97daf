/- Functions that a law of this seat reaches: written by a program of this session (wip/xprint.py), and by hand. -/
import Derived.Test.YtdeheflbigggbaaCBx0
import Derived.Test.YtdeheflbigggbaaCBx1
namespace Go.Proofs.Ytdeheflbigggbaa.CB
open Go.RowKit Go.Proofs.Ytdeheflbigggbaa.B Go.Proofs.YtdeheflbigggbaaW.PrintWords Go.Proofs.YtdeheflbigggbaaW.PrintLast Go.Proofs.YtdeheflbigggbaaW.PrintMore
attribute [local go_sem] max2_int min2_int max_two min_two max_three min_three max_four min_four   -- for this text's walks alone
set_option linter.unusedVariables false
set_option linter.unusedSimpArgs false

/-! ### impl_encodeBins: function 65 (by hand) -/
def pairB (x : S31) : Int × Int := (x.f0, x.f1)
theorem and255 {x : Int} (h0 : 0 ≤ x) (h1 : x < 4611686018427387904) : Go.bits .and .i64 x 255 = x % 256 :=
  bits_mask .i64 62 (by decide) (fun n a b => by rw [IntKind.wrap_i64]; omega) 8 (by decide) x h0 h1
theorem pair_take {l : List S31} {k : Nat} (hk : k < l.length) : (l.map pairB).take (k + 1) = (l.map pairB).take k ++ [pairB l[k]] := by
  rw [List.take_succ_eq_append_getElem (by simpa using hk)]
  simp
theorem rdT_nat {l : List S31} {k : Nat} (hk : k < l.length) : rd_T31 l (k : Int) = l[k] := by
  simp [rd_T31, List.getD, hk]
theorem binsOk_take {l : List (Int × Int)} (h : BinsOk l) (k : Nat) : BinsOk (l.take k) := fun x hx => h x (List.mem_of_mem_take hx)
theorem puts_state (l : List S31) (hok : BinsOk (l.map pairB)) (hl : l.length ≤ 1000000) (k : Nat) : EncOk (putsE startE ((l.map pairB).take k)) ∧ (putsE startE ((l.map pairB).take k)).out.length ≤ 1000000 := by
  refine ⟨puts_ok _ start_ok (binsOk_take hok k), ?_⟩
  have h1 := puts_length ((l.map pairB).take k) startE
  have h2 : ((l.map pairB).take k).length ≤ l.length := by rw [List.length_take, List.length_map]; omega
  simp only [startE, List.length_nil] at h1 ⊢
  omega
theorem enc_start {W : World} {B p : Nat} (L : LikAt W p likL) (hB : B ≤ p) (hs : B ≤ W.heap.size) : EncAt (W.alloc (.cells #[.pointer (some ⟨p, 0, none⟩), .int .i64 0, .int .i64 4294967295, .slice none 0 0] 102)) B W.heap.size p startE := by
  have hb := below_alloc (Below.refl W.heap.size W) (.cells #[.pointer (some ⟨p, 0, none⟩), .int .i64 0, .int .i64 4294967295, .slice none 0 0] 102)
  exact ⟨(hb.block p (blk_lt L)).trans L, ⟨hB, hs⟩, _, blk_new W _, Kd.R_nil _ _ _ _ _⟩
set_option maxHeartbeats 4000000 in
set_option maxRecDepth 100000 in
theorem iEncodeBins_calls (A : Option Addr) (c : Nat) (l : List S31) (w : World) (hr : Kd.C k31 w A l.length l) (hok : BinsOk (l.map pairB)) (hl : l.length ≤ 1000000) :
    Calls Try.prog 65 #[.slice A l.length c] w fun e w' => ∃ v, e = .returned v ∧ Kd.R (Kd.int .u8) 5 w' w.heap.size (fun _ => True) v (encL (l.map pairB)) ∧ Below w.heap.size w w' := by
  have hu := Try.underlying31
  have HR := Aside0.mk hr
  have HK := Aside0.mk hok
  have HN := Aside0.mk hl
  clear hr hok hl
  go_enter Try.func65, Try.ntmps65
  go_wp2_with (go_at_call 98; (with_reducible refine (iNewLik_calls _).mono ?_); rintro e w1 ⟨p, rfl, hlk, hp, hb⟩; have HL := Aside0.mk hlk; have HP := Aside0.mk hp; have HB := Aside0.mk hb; clear hlk hp hb)
  obtain ⟨W2, HW2⟩ : ∃ W2, Aside0 (W2 = w1.alloc (.cells #[.pointer (some ⟨p, 0, none⟩), .int .i64 0, .int .i64 4294967295, .slice none 0 0] 102)) := ⟨_, ⟨rfl⟩⟩
  have HE := Aside0.mk (show EncAt W2 w.heap.size w1.heap.size p (putsE startE ((l.map pairB).take 0)) from by rw [HW2.out]; exact enc_start HL.out HP.out HB.out.size)
  have HB2 := Aside0.mk (show Below w.heap.size w W2 from by rw [HW2.out]; exact below_alloc HB.out _)
  rw [← HW2.out]
  clear HW2 HL HB
  obtain ⟨b, HBB⟩ : ∃ b, Aside0 (b = w1.heap.size) := ⟨_, ⟨rfl⟩⟩
  rw [← HBB.out] at HE ⊢
  clear HBB
  have HB := HB2
  clear HB2
  go_loopg [12] l.length (fun kq v12 w' => ∃ (k : Nat), v12 = .int .i64 (k : Int) ∧ Aside0 (k + kq = l.length) ∧ Aside0 (EncAt w' w.heap.size b p (putsE startE ((l.map pairB).take k))) ∧ Aside0 (Below w.heap.size w w'))
  case atStart => exact ⟨0, rfl, ⟨by omega⟩, HE, HB⟩
  case round =>
    clear HE HB
    obtain ⟨k, rfl, HQ, HE, HB⟩ := hrel
    have hst := puts_state l HK.out HN.out k
    have HS1 := Aside0.mk hst.1
    have HS2 := Aside0.mk hst.2
    clear hst
    by_cases hk : k < l.length
    · have hki : (k : Int) < (l.length : Int) := by omega
      have hkn : l.length ≤ 1000000 := HN.out
      obtain ⟨ad, rfl, hx0, hx1⟩ := at_T31 HR.out (k : Int) (by omega) hki
      rw [rdT_nat hk, Int.toNat_natCast] at hx0 hx1
      have hbin := HK.out (pairB l[k]) (List.mem_map.2 ⟨_, List.getElem_mem hk, rfl⟩)
      obtain ⟨⟨hb0, hb1⟩, hb2⟩ := hbin
      have hb0 : 0 ≤ l[k].f0 := hb0
      have hb1 : l[k].f0 < 400 := hb1
      have hb2 : l[k].f1 = 0 ∨ l[k].f1 = 1 := hb2
      obtain ⟨ctx, HC⟩ := Int.eq_ofNat_of_zero_le hb0
      have HT := Aside0.mk (show (l.map pairB).take (k + 1) = (l.map pairB).take k ++ [((ctx : Int), l[k].f1)] from by rw [pair_take hk]; unfold pairB; rw [HC])
      rw [HC] at hx0 hb1
      have hc : ctx < 400 := by omega
      have HB2 := Aside0.mk hb2
      have y0 := pw_cell_below HB.out hx0
      have y1 := pw_cell_below HB.out hx1
      clear hb0 hb1 hb2 HC hx0 hx1
      obtain ⟨bit, HBI⟩ : ∃ bit, Aside0 (bit = l[k].f1) := ⟨_, ⟨rfl⟩⟩
      rw [← HBI.out] at HT HB2 y1
      clear HBI
      go_wp2_with (go_at_call 99; (with_reducible refine (iPut_calls w.heap.size b p _ _ _ _ ctx bit HB2.out _ (enc_alloc HE.out _) HS1.out hc (Nat.le_trans HS2.out (by decide))).mono ?_); rintro e W3 ⟨rfl, e3, b3⟩; have HE3 := Aside0.mk e3; have HB3 := Aside0.mk ((below_alloc HB.out _).trans b3); clear e3 b3)
      go_roundg (l.length - (k + 1))
      case measure => have := HQ.out; omega
      case rel =>
        refine ⟨k + 1, by first | rfl | go_num | simp, ⟨by have := HQ.out; omega⟩, ⟨?_⟩, HB3⟩
        rw [HT.out, puts_snoc]
        exact HE3.out
    · have hki : ¬ (k : Int) < (l.length : Int) := by omega
      have HKE := Aside0.mk (show (l.map pairB).take k = l.map pairB from List.take_of_length_le (by rw [List.length_map]; omega))
      rw [HKE.out] at HE HS1 HS2
      clear HKE
      have HEN := Aside0.mk (show encL (l.map pairB) = endE (putsE startE (l.map pairB)) from rfl)
      obtain ⟨s, HSS⟩ : ∃ s, Aside0 (s = putsE startE (l.map pairB)) := ⟨_, ⟨rfl⟩⟩
      rw [← HSS.out] at HE HS1 HS2 HEN
      obtain ⟨lik, low, width, out⟩ := s
      have hlow0 : 0 ≤ low := HS1.out.low0
      have hlow1 : low ≤ 8589934592 := by have h1 : low + width ≤ 8589934592 := HS1.out.sum; have h2 : 16777216 ≤ width := HS1.out.w0; omega
      have HO0 := Aside0.mk (show BytesOk out from HS1.out.out)
      have HN0 := Aside0.mk (show out.length ≤ 1000000 from HS2.out)
      obtain ⟨hb0, hb1, hb2, hf1, hf2, hbl, hpl, hbp⟩ := enc_cells HE.out
      have hq0 : 0 ≤ low / 16777216 := by omega
      have hq1 : low / 16777216 < 512 := by have h1 : low + width ≤ 8589934592 := HS1.out.sum; have h2 : 16777216 ≤ width := HS1.out.w0; omega
      have a16 : Go.bits .and .i64 (low / 65536) 255 = low / 65536 % 256 := and255 (by omega) (by omega)
      have a8 : Go.bits .and .i64 (low / 256) 255 = low / 256 % 256 := and255 (by omega) (by omega)
      have a0 : Go.bits .and .i64 low 255 = low % 256 := and255 (by omega) (by omega)
      obtain ⟨q16, H16⟩ : ∃ q, Aside0 (q = low / 65536 % 256) := ⟨_, ⟨rfl⟩⟩
      obtain ⟨q8, H8⟩ : ∃ q, Aside0 (q = low / 256 % 256) := ⟨_, ⟨rfl⟩⟩
      obtain ⟨q0, H0⟩ : ∃ q, Aside0 (q = low % 256) := ⟨_, ⟨rfl⟩⟩
      rw [← H16.out] at a16
      rw [← H8.out] at a8
      rw [← H0.out] at a0
      have r16 : 0 ≤ q16 ∧ q16 < 512 := by have := H16.out; omega
      have r8 : 0 ≤ q8 ∧ q8 < 512 := by have := H8.out; omega
      have r0 : 0 ≤ q0 ∧ q0 < 512 := by have := H0.out; omega
      have R16 := Aside0.mk r16
      have R8 := Aside0.mk r8
      have R0 := Aside0.mk r0
      clear r16 r8 r0
      obtain ⟨o1, HO1⟩ : ∃ o, Aside0 (o = layL out (low / 16777216)) := ⟨_, ⟨rfl⟩⟩
      have K1 := Aside0.mk (show BytesOk o1 ∧ o1.length ≤ 1000001 from by rw [HO1.out]; exact ⟨layL_ok HO0.out _, by rw [layL_length]; have := HN0.out; omega⟩)
      obtain ⟨o2, HO2⟩ : ∃ o, Aside0 (o = layL o1 q16) := ⟨_, ⟨rfl⟩⟩
      have K2 := Aside0.mk (show BytesOk o2 ∧ o2.length ≤ 1000002 from by rw [HO2.out]; exact ⟨layL_ok K1.out.1 _, by rw [layL_length]; have := K1.out.2; omega⟩)
      obtain ⟨o3, HO3⟩ : ∃ o, Aside0 (o = layL o2 q8) := ⟨_, ⟨rfl⟩⟩
      have K3 := Aside0.mk (show BytesOk o3 ∧ o3.length ≤ 1000003 from by rw [HO3.out]; exact ⟨layL_ok K2.out.1 _, by rw [layL_length]; have := K2.out.2; omega⟩)
      have HEND := Aside0.mk (show encL (l.map pairB) = layL o3 q0 from by rw [HEN.out, HO3.out, HO2.out, HO1.out, H16.out, H8.out, H0.out]; rfl)
      go_wp2_with (first | (go_at_call 100; (with_reducible refine (iLay_calls w.heap.size b p lik low width out _ _ HE.out HO0.out hq0 hq1 (Nat.le_trans HN0.out (by decide))).mono ?_); rintro e W3 ⟨rfl, e3, b3⟩; rw [← HO1.out] at e3; have HE3 := Aside0.mk e3; have HB3 := Aside0.mk (HB.out.trans b3); clear e3 b3; clear hb0 hb1 hb2 hf1 hf2; obtain ⟨hb0, hb1, hb2, hf1, hf2, hbl3, hpl3, -⟩ := enc_cells HE3.out))
      refine wp_loop_rounds 4 ?_
      rw [rounds_succ]
      go_wp2_with (first | (go_at_call 100; (with_reducible refine (iLay_calls w.heap.size b p lik low width o1 q16 _ HE3.out K1.out.1 R16.out.1 R16.out.2 (Nat.le_trans K1.out.2 (by decide))).mono ?_); rintro e W4 ⟨rfl, e4, b4⟩; rw [← HO2.out] at e4; have HE4 := Aside0.mk e4; have HB4 := Aside0.mk (HB3.out.trans b4); clear e4 b4; clear hb0 hb1 hb2 hf1 hf2; obtain ⟨hb0, hb1, hb2, hf1, hf2, hbl4, hpl4, -⟩ := enc_cells HE4.out))
      rw [rounds_succ]
      go_wp2_with (first | (go_at_call 100; (with_reducible refine (iLay_calls w.heap.size b p lik low width o2 q8 _ HE4.out K2.out.1 R8.out.1 R8.out.2 (Nat.le_trans K2.out.2 (by decide))).mono ?_); rintro e W5 ⟨rfl, e5, b5⟩; rw [← HO3.out] at e5; have HE5 := Aside0.mk e5; have HB5 := Aside0.mk (HB4.out.trans b5); clear e5 b5; clear hb0 hb1 hb2 hf1 hf2; obtain ⟨hb0, hb1, hb2, hf1, hf2, hbl5, hpl5, -⟩ := enc_cells HE5.out))
      rw [rounds_succ]
      go_wp2_with (first | (go_at_call 100; (with_reducible refine (iLay_calls w.heap.size b p lik low width o3 q0 _ HE5.out K3.out.1 R0.out.1 R0.out.2 (Nat.le_trans K3.out.2 (by decide))).mono ?_); rintro e W6 ⟨rfl, e6, b6⟩; rw [← HEND.out] at e6; have HE6 := Aside0.mk e6; have HB6 := Aside0.mk (HB5.out.trans b6); clear e6 b6; clear hb0 hb1 hb2 hf1 hf2; obtain ⟨L6, P6, v6, G6, R6⟩ := HE6.out; have hc3 : W6.cell? ⟨b, 3, none⟩ = some v6 := (blk_cell G6 3).trans rfl; have HR6 := Aside0.mk R6; clear L6 P6 G6 R6))
      rw [rounds_succ]
      go_wp2
      go_ret
      exact ⟨_, rfl, HR6.out, HB6.out⟩

/-! ### impl_EncodeBins: function 22 (by hand) -/
theorem binsB_ok {l : List S31} (h : l.all binB = true) : BinsOk (l.map pairB) := by
  intro x hx
  obtain ⟨y, hy, rfl⟩ := List.mem_map.1 hx
  have := List.all_eq_true.1 h y hy
  simp only [binB, Bool.and_eq_true, inR_iff] at this
  exact ⟨⟨this.1.1, by show y.f0 < 400; omega⟩, by show y.f1 = 0 ∨ y.f1 = 1; omega⟩
def encodeI (l : List S31) : List Int := if binsB l = true then encL (l.map pairB) else []
def impl_EncodeBins.f (l0 : List S31) : Option (List Int) := if l0.length ≤ 4611686018427387904 then some (encodeI l0) else none
set_option maxHeartbeats 4000000 in
set_option maxRecDepth 100000 in
theorem impl_EncodeBins.calls (A0 : Option Addr) (c0 : Nat) (l0 : List S31) (r : List Int) (w : World) (hr0 : Kd.C k31 w A0 l0.length l0) (hc0 : l0.length ≤ c0) (h : impl_EncodeBins.f l0 = some r) :
    Calls Try.prog 22 #[.slice A0 l0.length c0] w fun e w' => ∃ v0_ : Value, e = .returned (v0_) ∧ Kd.R (Kd.int .u8) 5 w' w.heap.size (fun _ => True) v0_ r ∧ Below w.heap.size w w' := by
  unfold impl_EncodeBins.f at h
  by_cases hl : l0.length ≤ 4611686018427387904
  · rw [if_pos hl] at h
    obtain rfl := Option.some.inj h
    clear h
    obtain ⟨k, hk⟩ := (areBins_f l0 hl).rounds
    have HA := Aside0.mk (impl_areBins.calls k A0 c0 l0 _ w hr0 hc0 hk)
    have HR := Aside0.mk hr0
    clear hr0 hc0 hk hl
    by_cases hb : binsB l0 = true
    · have HE := Aside0.mk (show encodeI l0 = encL (l0.map pairB) from by unfold encodeI; rw [if_pos hb])
      rw [HE.out]
      clear HE
      have HN := Aside0.mk (binsB_len hb)
      have HO := Aside0.mk (show BinsOk (l0.map pairB) from binsB_ok (by simp only [binsB, Bool.and_eq_true] at hb; exact hb.1))
      rw [hb] at HA
      clear hb
      go_enter Try.func22, Try.ntmps22
      go_wp2_with (first
        | (go_at_call 64; (with_reducible refine HA.out.mono ?_); rintro e w1 ⟨rfl, hb1⟩; have HB := Aside0.mk hb1; clear hb1)
        | (go_at_call 65; (with_reducible refine (iEncodeBins_calls A0 c0 l0 _ (Kd.C_below HR.out HB.out) HO.out (Nat.le_trans HN.out (by decide))).mono ?_); rintro e w2 ⟨v, rfl, hv, hb2⟩; have HV := Aside0.mk hv; have HB2 := Aside0.mk hb2; clear hv hb2))
      go_ret
      exact ⟨_, rfl, Kd.R_lower HV.out (below_size HB.out), below_step HB.out HB2.out⟩
    · have HE := Aside0.mk (show encodeI l0 = [] from by unfold encodeI; rw [if_neg hb])
      rw [HE.out]
      clear HE
      rw [Bool.eq_false_iff.2 hb] at HA
      clear hb
      go_enter Try.func22, Try.ntmps22
      go_wp2_with (first
        | (go_at_call 64; (with_reducible refine HA.out.mono ?_); rintro e w1 ⟨rfl, hb1⟩; have HB := Aside0.mk hb1; clear hb1))
      go_ret
      exact ⟨_, rfl, Kd.R_nil _ _ _ _ _, HB.out⟩
  · rw [if_neg hl] at h
    cases h

/-! ### laws_sameBytes: function 23 -/
def laws_sameBytes.l0 : Nat → List Int → List Int → Int → Option (Bool)
  | 0, _, _, _ => none
  | k + 1, x0, x1, x5 => if x5 < (x0.length : Int) then (if 0 ≤ x5 then (if x5 < (x1.length : Int) then (if (rd x0 x5) = (rd x1 x5) then (laws_sameBytes.l0 k x0 x1 (wrap64 (x5 + 1))) else (some false)) else (none)) else (none)) else (some true)
def laws_sameBytes.f (k : Nat) (l0 : List Int) (l1 : List Int) : Option (Bool) := if (l0.length : Int) = (l1.length : Int) then (laws_sameBytes.l0 k l0 l1 0) else (some false)
theorem laws_sameBytes.mono_l : ∀ k, (∀ y0 y1 y2, LeO (laws_sameBytes.l0 k y0 y1 y2) (laws_sameBytes.l0 (k + 1) y0 y1 y2))
  | 0 => fun _ _ _ r h => by simp [laws_sameBytes.l0] at h
  | k + 1 => by
    have ih0 := laws_sameBytes.mono_l k
    · intro y0 y1 y2
      unfold laws_sameBytes.l0
      repeat' first
      | (with_reducible exact ih0 _ _ _)
      | (with_reducible exact LeO.refl _)
      | (with_reducible exact LeO.none _)
      | (with_reducible refine LeO.ite ?_ ?_)
      | (with_reducible refine LeO.bind ?_ (fun _ => ?_))
      | exact ih0 _ _ _
      | exact LeO.none _
      | refine LeO.ite ?_ ?_
      | refine LeO.bind ?_ (fun _ => ?_)
theorem laws_sameBytes.mono : ∀ a0 a1 k, LeO (laws_sameBytes.f k a0 a1) (laws_sameBytes.f (k + 1) a0 a1) := by
  intro a0 a1 k
  have ih0 := laws_sameBytes.mono_l k
  unfold laws_sameBytes.f
  repeat' first
      | (with_reducible exact ih0 _ _ _)
      | (with_reducible exact LeO.refl _)
      | (with_reducible exact LeO.none _)
      | (with_reducible refine LeO.ite ?_ ?_)
      | (with_reducible refine LeO.bind ?_ (fun _ => ?_))
      | exact ih0 _ _ _
      | exact LeO.none _
      | refine LeO.ite ?_ ?_
      | refine LeO.bind ?_ (fun _ => ?_)
set_option maxHeartbeats 8000000 in
set_option maxRecDepth 100000 in
theorem laws_sameBytes.calls (k : Nat) (A0 : Option Addr) (c0 : Nat) (l0 : List Int) (A1 : Option Addr) (c1 : Nat) (l1 : List Int) (r : Bool) (w : World) (hr0 : Kd.C (Kd.int .u8) w A0 l0.length l0) (hc0 : l0.length ≤ c0) (hr1 : Kd.C (Kd.int .u8) w A1 l1.length l1) (hc1 : l1.length ≤ c1) (h : laws_sameBytes.f k l0 l1 = some r) :
    Calls Try.prog 23 #[.slice A0 l0.length c0, .slice A1 l1.length c1] w fun e w' => e = .returned (.bool r) ∧ Drawn0 w w' := by
  have HR0 := Aside0.mk hr0
  have HC0 := Aside0.mk hc0
  clear hr0 hc0
  have HR1 := Aside0.mk hr1
  have HC1 := Aside0.mk hc1
  clear hr1 hc1
  have H : (if (l0.length : Int) = (l1.length : Int) then (laws_sameBytes.l0 k l0 l1 0) else (some false)) = some r := h
  clear h
  by_cases c3 : (l0.length : Int) = (l1.length : Int)
  · rw [if_pos c3] at H
    have c3b0 : ((l0.length : Int) == (l1.length : Int)) = true := beq_iff_eq.mpr c3
    have c3b1 : ((l0.length : Int) != (l1.length : Int)) = false := bne_eq_false_iff_eq.mpr c3
    have c3b2 : (l0.length == l1.length) = true := by first | simpa using c3 | (simp at c3 ⊢; omega)
    clear c3
    have H' := Aside0.mk H
    clear H
    go_enter Try.func23, Try.ntmps23
    go_wp2
    repeat (go_quiet (fail); try go_wp2)
    go_loopg [5] k (fun kq v5 w' => ∃ (x5_1 : Int), v5 = .int .i64 x5_1 ∧ Aside0 (laws_sameBytes.l0 kq l0 l1 x5_1 = some r) ∧ Aside0 (kq ≤ k) ∧ Drawn0 w w')
    case atStart => exact ⟨(0), (by first | rfl | (simp; done) | (simp [*]; done)), H', ⟨Nat.le_refl _⟩, by repeat (first | exact Drawn0.refl _ | apply Drawn0.step)⟩
    case round =>
      clear H'
      try clear c1
      try clear c2
      try clear p2
      try clear c3
      try clear c3b0
      try clear c3b1
      try clear c3b2
      obtain ⟨x5_1, rfl, HA, HK1, ⟨m1, rfl⟩⟩ := hrel
      cases gk with
      | zero => exact absurd HA.out (by simp [laws_sameBytes.l0])
      | succ k1 =>
        have H := HA.out
        clear HA
        simp only [laws_sameBytes.l0] at H
        by_cases c4 : x5_1 < (l0.length : Int)
        · rw [if_pos c4] at H
          have c4b0 : decide (x5_1 < (l0.length : Int)) = true := decide_eq_true c4
          clear c4
          by_cases c5 : 0 ≤ x5_1
          · rw [if_pos c5] at H
            have c5b0 : decide (0 ≤ x5_1) = true := decide_eq_true c5
            clear c5
            by_cases c6 : x5_1 < (l1.length : Int)
            · rw [if_pos c6] at H
              have c6b0 : decide (x5_1 < (l1.length : Int)) = true := decide_eq_true c6
              clear c6
              by_cases c7 : (rd l0 x5_1) = (rd l1 x5_1)
              · rw [if_pos c7] at H
                have c7b0 : ((rd l0 x5_1) == (rd l1 x5_1)) = true := beq_iff_eq.mpr c7
                have c7b1 : ((rd l0 x5_1) != (rd l1 x5_1)) = false := bne_eq_false_iff_eq.mpr c7
                clear c7
                have H' := Aside0.mk H
                clear H
                have p106 : 0 ≤ (x5_1 : Int) := of_decide_eq_true (by first | (with_reducible assumption) | assumption)
                have q106 : x5_1 < (l0.length : Int) := of_decide_eq_true (by first | (with_reducible assumption) | assumption)
                obtain ⟨ad106, e106, hx106_0⟩ := Kd.at_int HR0.out x5_1 p106 q106
                cases e106
                replace p106 := eq_true p106
                replace q106 := eq_true q106
                have p107 : 0 ≤ (x5_1 : Int) := of_decide_eq_true (by first | (with_reducible assumption) | assumption)
                have q107 : x5_1 < (l1.length : Int) := of_decide_eq_true (by first | (with_reducible assumption) | assumption)
                obtain ⟨ad107, e107, hx107_0⟩ := Kd.at_int HR1.out x5_1 p107 q107
                cases e107
                replace p107 := eq_true p107
                replace q107 := eq_true q107
                go_wp2
                repeat (go_quiet (fail); try go_wp2)
                go_roundg k1
                case measure => have := HK1.out; omega
                case rel => exact ⟨(wrap64 (x5_1 + 1)), (by first | rfl | (simp; done) | (simp [*]; done)), H', ⟨by have := HK1.out; omega⟩, by repeat (first | exact Drawn0.refl _ | apply Drawn0.step)⟩
              · rw [if_neg c7] at H
                have c7b0 : ((rd l0 x5_1) == (rd l1 x5_1)) = false := beq_eq_false_iff_ne.mpr c7
                have c7b1 : ((rd l0 x5_1) != (rd l1 x5_1)) = true := bne_iff_ne.mpr c7
                obtain rfl := Option.some.inj H
                have p106 : 0 ≤ (x5_1 : Int) := of_decide_eq_true (by first | (with_reducible assumption) | assumption)
                have q106 : x5_1 < (l0.length : Int) := of_decide_eq_true (by first | (with_reducible assumption) | assumption)
                obtain ⟨ad106, e106, hx106_0⟩ := Kd.at_int HR0.out x5_1 p106 q106
                cases e106
                replace p106 := eq_true p106
                replace q106 := eq_true q106
                have p107 : 0 ≤ (x5_1 : Int) := of_decide_eq_true (by first | (with_reducible assumption) | assumption)
                have q107 : x5_1 < (l1.length : Int) := of_decide_eq_true (by first | (with_reducible assumption) | assumption)
                obtain ⟨ad107, e107, hx107_0⟩ := Kd.at_int HR1.out x5_1 p107 q107
                cases e107
                replace p107 := eq_true p107
                replace q107 := eq_true q107
                go_wp2
                repeat (go_quiet (fail); try go_wp2)
                go_ret
                exact ⟨by first | rfl | (simp; done) | (simp [*]; done), by repeat (first | exact Drawn0.refl _ | apply Drawn0.step)⟩
            · rw [if_neg c6] at H
              exact absurd H (by simp)
          · rw [if_neg c5] at H
            exact absurd H (by simp)
        · rw [if_neg c4] at H
          have c4b0 : decide (x5_1 < (l0.length : Int)) = false := decide_eq_false c4
          clear c4
          obtain rfl := Option.some.inj H
          go_wp2
          repeat (go_quiet (fail); try go_wp2)
          go_ret
          exact ⟨by first | rfl | (simp; done) | (simp [*]; done), by repeat (first | exact Drawn0.refl _ | apply Drawn0.step)⟩
  · rw [if_neg c3] at H
    have c3b0 : ((l0.length : Int) == (l1.length : Int)) = false := beq_eq_false_iff_ne.mpr c3
    have c3b1 : ((l0.length : Int) != (l1.length : Int)) = true := bne_iff_ne.mpr c3
    have c3b2 : (l0.length == l1.length) = false := by first | simpa using c3 | (simp at c3 ⊢; omega)
    obtain rfl := Option.some.inj H
    go_enter Try.func23, Try.ntmps23
    go_wp2
    repeat (go_quiet (fail); try go_wp2)
    go_ret
    exact ⟨by first | rfl | (simp; done) | (simp [*]; done), by repeat (first | exact Drawn0.refl _ | apply Drawn0.step)⟩

theorem sameBytes_l0 (l : List Int) (hl : l.length ≤ 4611686018427387904) : ∀ (d i : Nat), i + d = l.length → Ev (fun k => laws_sameBytes.l0 k l l i) true := by
  intro d
  induction d with
  | zero =>
    intro i hi
    refine Ev.step (fun k => by rw [laws_sameBytes.l0]) ?_
    exact evNeg (by omega) (Ev.now _)
  | succ d ih =>
    intro i hi
    refine Ev.step (fun k => by rw [laws_sameBytes.l0]) ?_
    refine evPos (by omega) (evPos (by omega) (evPos (by omega) (evPos rfl ?_)))
    rw [w64 (by omega) (by omega)]
    exact ih (i + 1) (by omega)
theorem sameBytes_f (l : List Int) (hl : l.length ≤ 4611686018427387904) : Ev (fun k => laws_sameBytes.f k l l) true := by
  unfold laws_sameBytes.f
  exact evPos rfl (sameBytes_l0 l hl l.length 0 (by omega))

/-! ### spec_l01Between: function 58 -/
def spec_l01Between.f (a0 : Int) (a1 : Int) (a2 : Int) : Option (Bool) := if a0 ≥ a1 then (some (decide (a0 ≤ a2))) else (some false)
set_option maxHeartbeats 8000000 in
set_option maxRecDepth 100000 in
theorem spec_l01Between.calls (a0 : Int) (a1 : Int) (a2 : Int) (r : Bool) (w : World) (h : spec_l01Between.f a0 a1 a2 = some r) :
    Calls Try.prog 58 #[.int .i64 a0, .int .i64 a1, .int .i64 a2] w fun e w' => e = .returned (.bool r) ∧ Drawn0 w w' := by
  have H : (if a0 ≥ a1 then (some (decide (a0 ≤ a2))) else (some false)) = some r := h
  clear h
  by_cases c4 : a0 ≥ a1
  · rw [if_pos c4] at H
    have c4b0 : decide (a1 ≤ a0) = true := decide_eq_true c4
    clear c4
    obtain rfl := Option.some.inj H
    go_enter Try.func58, Try.ntmps58
    go_wp2
    go_ret
    exact ⟨by first | rfl | (simp; done) | (simp [*]; done), by repeat (first | exact Drawn0.refl _ | apply Drawn0.step)⟩
  · rw [if_neg c4] at H
    have c4b0 : decide (a1 ≤ a0) = false := decide_eq_false c4
    clear c4
    obtain rfl := Option.some.inj H
    go_enter Try.func58, Try.ntmps58
    go_wp2
    go_ret
    exact ⟨by first | rfl | (simp; done) | (simp [*]; done), by repeat (first | exact Drawn0.refl _ | apply Drawn0.step)⟩

theorem between_f (a b c : Int) : spec_l01Between.f a b c = some (inR a b c) := inR_ite a b c

/-! ### spec_l09Like_learn: function 102 (by hand) -/
theorem row_kept {W W1 : World} {B B' : Nat} {k k' : IntKind} {e e' : Nat} {v v' : Value} {xs ys : List Int} (h : Kd.R (Kd.int k) e W B (fun _ => True) v xs) (h' : Kd.R (Kd.int k') e' W B' (fun _ => True) v' ys) (hne : e ≠ e') (hg : W.grownBy W1 v'.ownBlock) :
    Kd.R (Kd.int k) e W1 B (fun _ => True) v xs :=
  Kd.R_of_own (own_other (Kd.own_of_R h) hg (own_type_ne (Kd.own_of_R h) (Kd.own_of_R h') hne)) (fun _ _ => trivial)
/-- The likelihoods of the reference: a row of the call's own behind a struct of one field. -/
def SLikAt (W : World) (B g : Nat) (lik : List Int) : Prop := B ≤ g ∧ ∃ v, W.heap[g]? = some (.cells #[v] 110 (0, 0)) ∧ Kd.R (Kd.int .i64) 3 W B (fun _ => True) v lik
theorem slik_cell {W : World} {B g : Nat} {lik : List Int} (h : SLikAt W B g lik) (i : Nat) (hi : i < lik.length) : ∃ q c, W.cell? ⟨g, 0, none⟩ = some (.slice (some ⟨q, 0, none⟩) lik.length c) ∧ W.cell? ⟨q, i, none⟩ = some (.int .i64 (rd lik i)) ∧ W.frozen? ⟨q, i, none⟩ = false ∧ q < W.heap.size ∧ B ≤ q := by
  obtain ⟨hB, v, G, hR⟩ := h
  obtain ⟨q, c, rfl, hq0, hq1, cells, hc⟩ := Kd.R_form hR (by omega)
  obtain ⟨hx, hf⟩ := Kd.R_celln 0 hR (i : Int) (by omega) (by omega)
  rw [Int.toNat_natCast] at hx hf
  exact ⟨q, c, (blk_cell G 0).trans rfl, hx, hf, hq1, hq0⟩
theorem slik_set {W : World} {B g q c : Nat} {lik : List Int} (h : SLikAt W B g lik) (hq : W.cell? ⟨g, 0, none⟩ = some (.slice (some ⟨q, 0, none⟩) lik.length c)) (hl : 0 < lik.length) (i : Nat) (x : Int) : SLikAt (W.setCell ⟨q, i, none⟩ (.int .i64 x)) B g (lik.set i x) := by
  obtain ⟨hB, v, G, hR⟩ := h
  have e : W.cell? ⟨g, 0, none⟩ = some v := (blk_cell G 0).trans rfl
  rw [hq] at e
  injection e with e
  subst e
  obtain ⟨q', c', e2, hq0, hq1, cells, hc⟩ := Kd.R_form hR hl
  injection e2 with e2 _ _
  injection e2 with e2
  injection e2 with e2 _ _
  subst e2
  refine ⟨hB, _, blk_far G (blk_ne G hc (by decide)) _, ?_⟩
  have := (Kd.R_putg hR (i : Int) x).1
  rw [Int.toNat_natCast] at this
  exact this
set_option maxHeartbeats 4000000 in
set_option maxRecDepth 100000 in
theorem sLearn_calls (g q c n ctx : Nat) (x bit : Int) (w : World) (h0 : w.cell? ⟨g, 0, none⟩ = some (.slice (some ⟨q, 0, none⟩) n c)) (hx : w.cell? ⟨q, ctx, none⟩ = some (.int .i64 x)) (hf : w.frozen? ⟨q, ctx, none⟩ = false) (hr0 : 31 ≤ x) (hr1 : x ≤ 4065) (hc : ctx < n) :
    Calls Try.prog 102 #[.pointer (some ⟨g, 0, none⟩), .int .i64 ctx, .int .i64 bit] w fun e w' => e = .returned (.tuple #[]) ∧ ∃ n, w' = (w.setCell ⟨q, ctx, none⟩ (.int .i64 (learnP x bit))).drewN n := by
  have hlt : (ctx : Int) < (n : Int) := by omega
  by_cases hb : bit = 0
  · subst hb
    have HE := Aside0.mk (show learnP x 0 = x + (4096 - x) / 32 from rfl)
    rw [HE.out]
    clear HE
    go_enter Try.func102, Try.ntmps102
    go_wp2
    go_region
    go_end0
    exact ⟨rfl, 1, rfl⟩
  · have hb0 : (bit == 0) = false := beq_eq_false_iff_ne.mpr hb
    have HE := Aside0.mk (show learnP x bit = x - x / 32 from by unfold learnP; rw [if_neg hb])
    rw [HE.out]
    clear HE hb
    go_enter Try.func102, Try.ntmps102
    go_wp2
    go_region
    go_end0
    exact ⟨rfl, 1, rfl⟩

/-! ### spec_l09Out_lay: function 103 (by hand) -/
theorem slik_grown {W W1 : World} {B g : Nat} {lik : List Int} {B' : Nat} {v' : Value} {ys : List Int} (h : SLikAt W B g lik) (h' : Kd.R (Kd.int .u8) 5 W B' (fun _ => True) v' ys) (hg : W.grownBy W1 v'.ownBlock) : SLikAt W1 B g lik := by
  obtain ⟨hB, v, G, hR⟩ := h
  exact ⟨hB, v, blk_grown G hg (Kd.R_ne h' G (by decide)), row_kept hR h' (by decide) hg⟩
theorem slik_far {W : World} {B g : Nat} {lik : List Int} (h : SLikAt W B g lik) {b : Nat} {cs : Array Value} {t : TypeId} (hb : W.heap[b]? = some (.cells cs t (0, 0))) (h1 : 3 ≠ t) (h2 : 110 ≠ t) (i : Nat) (u : Value) : SLikAt (W.setCell ⟨b, i, none⟩ u) B g lik := by
  obtain ⟨hB, v, G, hR⟩ := h
  exact ⟨hB, v, blk_far G (blk_ne G hb h2) _, Kd.R_set hR hb (fun q hq => by rcases List.mem_singleton.1 hq with rfl; exact h1) i u⟩
theorem slik_far8 {W : World} {B g : Nat} {lik : List Int} (h : SLikAt W B g lik) {b : Nat} {cs : Array Value} (hb : W.heap[b]? = some (.cells cs 5 (0, 0))) (i : Nat) (u : Value) : SLikAt (W.setCell ⟨b, i, none⟩ u) B g lik := slik_far h hb (by decide) (by decide) i u
def SEncAt (W : World) (B b g : Nat) (s : Enc) : Prop :=
  SLikAt W B g s.lik ∧ B ≤ b ∧ ∃ v, W.heap[b]? = some (.cells #[.pointer (some ⟨g, 0, none⟩), .int .i64 s.low, .int .i64 s.width, v] 108 (0, 0)) ∧ Kd.R (Kd.int .u8) 5 W B (fun _ => True) v s.out
theorem senc_put {W : World} {B b g : Nat} {lik : List Int} {low width : Int} {v v1 : Value} {out : List Int} (G : W.heap[b]? = some (.cells #[.pointer (some ⟨g, 0, none⟩), .int .i64 low, .int .i64 width, v] 108 (0, 0)))
    (L : SLikAt W B g lik) (hB : B ≤ b) (ho : Kd.R (Kd.int .u8) 5 W B (fun _ => True) v1 out) : SEncAt (W.setCell ⟨b, 3, none⟩ v1) B b g ⟨lik, low, width, out⟩ := by
  refine ⟨slik_far L G (by decide) (by decide) 3 v1, hB, v1, ?_, Kd.R_set ho G (by decide) 3 v1⟩
  rw [blk_set G 3]
  rfl
theorem senc_low {W : World} {B b g : Nat} {s : Enc} (h : SEncAt W B b g s) (x : Int) : SEncAt (W.setCell ⟨b, 1, none⟩ (.int .i64 x)) B b g ⟨s.lik, x, s.width, s.out⟩ := by
  obtain ⟨L, hB, v, G, ho⟩ := h
  refine ⟨slik_far L G (by decide) (by decide) 1 _, hB, v, ?_, Kd.R_set ho G (by decide) 1 _⟩
  rw [blk_set G 1]
  rfl
theorem senc_width {W : World} {B b g : Nat} {s : Enc} (h : SEncAt W B b g s) (x : Int) : SEncAt (W.setCell ⟨b, 2, none⟩ (.int .i64 x)) B b g ⟨s.lik, s.low, x, s.out⟩ := by
  obtain ⟨L, hB, v, G, ho⟩ := h
  refine ⟨slik_far L G (by decide) (by decide) 2 _, hB, v, ?_, Kd.R_set ho G (by decide) 2 _⟩
  rw [blk_set G 2]
  rfl
theorem senc_drew {W : World} {B b g : Nat} {s : Enc} (h : SEncAt W B b g s) : SEncAt W.drew B b g s := h
theorem senc_drewN {W : World} {B b g : Nat} {s : Enc} (h : SEncAt W B b g s) (n : Nat) : SEncAt (W.drewN n) B b g s := h
theorem senc_lt {W : World} {B b g : Nat} {s : Enc} (h : SEncAt W B b g s) : B ≤ W.heap.size := by
  obtain ⟨L, hB, v, G, ho⟩ := h
  have := blk_lt G
  omega
theorem senc_cells {W : World} {B b g : Nat} {lik : List Int} {low width : Int} {out : List Int} (h : SEncAt W B b g ⟨lik, low, width, out⟩) :
    W.cell? ⟨b, 0, none⟩ = some (.pointer (some ⟨g, 0, none⟩)) ∧ W.cell? ⟨b, 1, none⟩ = some (.int .i64 low) ∧ W.cell? ⟨b, 2, none⟩ = some (.int .i64 width) ∧ W.frozen? ⟨b, 1, none⟩ = false ∧ W.frozen? ⟨b, 2, none⟩ = false ∧ b < W.heap.size := by
  obtain ⟨L, hB, v, G, ho⟩ := h
  exact ⟨(blk_cell G 0).trans rfl, (blk_cell G 1).trans rfl, (blk_cell G 2).trans rfl, blk_frozen G 1, blk_frozen G 2, blk_lt G⟩
set_option maxHeartbeats 4000000 in
set_option maxRecDepth 100000 in
theorem sLay_calls (B b g : Nat) (lik : List Int) (low width : Int) (out : List Int) (w : World) (h : SEncAt w B b g ⟨lik, low, width, out⟩) (ho : BytesOk out) (h0 : 0 ≤ low) (h1 : low < 8589934592) (hl : out.length ≤ 100000000) :
    Calls Try.prog 103 #[.pointer (some ⟨b, 0, none⟩)] w fun e w' => e = .returned (.tuple #[]) ∧ SEncAt w' B b g ⟨lik, low % 16777216 * 256, width, layL out (low / 16777216)⟩ ∧ Below B w w' := by
  have HS := Aside0.mk (senc_lt h)
  obtain ⟨L, hP, v, G, hR⟩ := h
  have HL := Aside0.mk L
  have HP := Aside0.mk hP
  have HG := Aside0.mk G
  have HO := Aside0.mk hR
  have HN := Aside0.mk hl
  have HB := Aside0.mk (Below.refl B w)
  have hc1 : w.cell? ⟨b, 1, none⟩ = some (.int .i64 low) := (blk_cell G 1).trans rfl
  have hc3 : w.cell? ⟨b, 3, none⟩ = some v := (blk_cell G 3).trans rfl
  have hf3 := blk_frozen G 3
  clear L hP G hR hl
  by_cases hn : 256 ≤ low / 16777216
  · have HE := Aside0.mk (show layL out (low / 16777216) = carryL out ++ [low / 16777216 - 256] from by unfold layL; rw [if_pos hn]; congr 2; omega)
    rw [HE.out]
    clear HE
    obtain ⟨A, c, rfl, hle, hC⟩ := Kd.R_reads HO.out
    clear hle hC
    have hlen : out.length ≤ 100000000 := HN.out
    have hq : low / 16777216 < 512 := by omega
    go_enter Try.func103, Try.ntmps103
    go_wp2
    go_loopg [3] out.length (fun kq v3 w' => ∃ (j : Nat) (i : Int), v3 = .int .i64 i ∧ Aside0 (i = (j : Int) - 1 ∧ j = kq ∧ j ≤ out.length ∧ Full out j) ∧ Aside0 (Kd.R (Kd.int .u8) 5 w' B (fun _ => True) (.slice A out.length c) (zeroed out j)) ∧ Aside0 (w'.heap[b]? = some (.cells #[.pointer (some ⟨g, 0, none⟩), .int .i64 low, .int .i64 width, .slice A out.length c] 108 (0, 0))) ∧ Aside0 (SLikAt w' B g lik) ∧ Aside0 (Below B w w'))
    case atStart => exact ⟨out.length, _, rfl, ⟨rfl, rfl, Nat.le_refl _, (full_all out).1⟩, ⟨by rw [(full_all out).2]; exact HO.out⟩, HG, HL, HB⟩
    case round =>
      clear HO HG HL HB hc3 hf3 HS hc1
      obtain ⟨j, i, rfl, HJ, HO, HG, HL, HB⟩ := hrel
      obtain ⟨ji, jk, jl, jf⟩ := HJ.out
      have HS := Aside0.mk (show B ≤ wr.heap.size from by have := blk_lt HG.out; have := HP.out; omega)
      have hc1 : wr.cell? ⟨b, 1, none⟩ = some (.int .i64 low) := (blk_cell HG.out 1).trans rfl
      have hc3 : wr.cell? ⟨b, 3, none⟩ = some (.slice A out.length c) := (blk_cell HG.out 3).trans rfl
      have hf3 := blk_frozen HG.out 3
      have hf1 := blk_frozen HG.out 1
      have JF := Aside0.mk jf
      have JI := Aside0.mk ji
      clear HJ jf
      cases j with
      | zero =>
        have hi : i < 0 := by omega
        have HQ := Aside0.mk (full_none JF.out)
        clear ji jk
        have HN := Aside0.mk (show (zeroed out 0).length ≤ 100000000 from by rw [zeroed_length (by omega)]; exact hlen)
        go_wp2_with (first
          | ((with_reducible refine gate_builtin (b := .append) (xs := #[.tmp 59, .tmp 62]) rfl ?_); at_builtin; refine Kd.R_append (Kd.int .u8) (w0 := w) B rfl (.tmp 59) (.tmp 62) 27 5 (.int .u8 0) 1 rfl Try.underlying27 info5 rfl (by decide) (by omega) (.slice A out.length c) (zeroed out 0) (low / 16777216 - 256) [.int .u8 (low / 16777216 - 256)] (fun _ => True) (fun _ => False) rfl rfl ?aP (fun _ hk => hk.elim) ?aF ?aO ?aB ?aS ?aL ?_; (case aP => exact rfl); (case aF => exact (fun _ _ => trivial)); (case aO => exact HO.out); (case aB => exact HB.out); (case aS => exact HS.out); (case aL => have := HN.out; omega); intro v1 w1 ho hb hg hat; obtain ⟨g1, c1, rfl, -⟩ := Kd.R_form ho (by simp); have G1 := blk_grown HG.out hg (Kd.R_ne HO.out HG.out (by decide)); have L1 := slik_grown HL.out HO.out hg; have k3 : w1.cell? ⟨b, 3, none⟩ = some (.slice A out.length c) := (blk_cell G1 3).trans rfl; have k1 : w1.cell? ⟨b, 1, none⟩ = some (.int .i64 low) := (blk_cell G1 1).trans rfl; have f3 := blk_frozen G1 3; have f1 := blk_frozen G1 1; have HF := Aside0.mk (senc_put G1 L1 HP.out ho); have HB1 := Aside0.mk (show Below B w (w1.setCell ⟨b, 3, none⟩ _) from hb.setCell HP.out (.slice (some ⟨g1, 0, none⟩) (zeroed out 0 ++ [low / 16777216 - 256]).length c1)); clear hb hg hat ho G1 L1))
        go_end0
        exact ⟨rfl, by rw [HQ.out]; have := senc_low HF.out (low % 16777216 * 256); simp only [List.length_append, List.length_cons, List.length_nil, Nat.zero_add] at this; exact this, by have := HB1.out.setCell (p := ⟨b, 1, none⟩) HP.out (.int .i64 (low % 16777216 * 256)); simp only [List.length_append, List.length_cons, List.length_nil, Nat.zero_add] at this; exact this⟩
      | succ j =>
        have hi : 0 ≤ i := by omega
        have hi2 : i < (out.length : Int) := by omega
        have HI := Aside0.mk (show i.toNat = j from by omega)
        have JK := Aside0.mk jk
        clear ji jk
        obtain ⟨g2, c', e, hg0, hg1, cells, hcells⟩ := Kd.R_form HO.out (by rw [zeroed_length jl]; omega)
        injection e with e1 e2 e3
        subst e1
        clear e2 e3
        have GB := Aside0.mk hg0
        have GT := Aside0.mk hcells
        clear hg0 hg1 hcells
        obtain ⟨hx, hfx⟩ := Kd.R_celln 0 HO.out i hi hi2
        have HX := Aside0.mk (show rdOf 0 (zeroed out (j + 1)) i = rd out (j : Int) from by have e := JI.out; rw [show i = (j : Int) from by omega]; exact zeroed_rd jl)
        rw [HX.out] at hx
        clear HX
        have hr := rd_range0 (l := out) (lo := 0) (hi := 255) ho (by omega) (by omega) (j : Int)
        by_cases h255 : rd out (j : Int) = 255
        · rw [h255] at hx
          have HPt := Aside0.mk (Kd.R_putg HO.out i 0).1
          have HFN := Aside0.mk (full_next jl JF.out h255)
          go_wp2
          go_roundg j
          case measure => have := JK.out; omega
          case rel =>
            refine ⟨j, _, rfl, ⟨by have := JI.out; omega, rfl, by omega, HFN.out.1⟩, ⟨?_⟩, ⟨blk_far HG.out (blk_ne HG.out GT.out (by decide)) _⟩, ⟨slik_far8 HL.out GT.out _ _⟩, ⟨HB.out.setCell GB.out _⟩⟩
            have e := HFN.out.2
            have := HPt.out
            rw [HI.out] at this ⊢
            rw [e] at this
            exact this
        · obtain ⟨y, HY⟩ : ∃ y, Aside0 (y = rd out (j : Int)) := ⟨_, ⟨rfl⟩⟩
          rw [← HY.out] at hx hr h255
          have hy0 : 0 ≤ y := hr.1
          have hy1 : y ≤ 254 := by omega
          have hy2 : (y == 255) = false := beq_eq_false_iff_ne.mpr h255
          have HPt := Aside0.mk (Kd.R_putg HO.out i (y + 1)).1
          have HFS := Aside0.mk (show (zeroed out (j + 1)).set i.toNat (y + 1) = carryL out from by rw [HI.out, HY.out]; exact full_stop jl JF.out (by rw [← HY.out]; exact h255))
          have HG2 := Aside0.mk (blk_far HG.out (blk_ne HG.out GT.out (by decide)) (.int .u8 (y + 1)) (p := ⟨g2, i.toNat, none⟩))
          have HL2 := Aside0.mk (slik_far8 HL.out GT.out i.toNat (.int .u8 (y + 1)))
          have HB2 := Aside0.mk (show Below B w (wr.setCell ⟨g2, i.toNat, none⟩ (.int .u8 (y + 1))) from HB.out.setCell GB.out _)
          have HN := Aside0.mk (show ((zeroed out (j + 1)).set i.toNat (y + 1)).length ≤ 100000000 from by rw [List.length_set, zeroed_length jl]; exact hlen)
          have HS := Aside0.mk (show B ≤ (wr.setCell ⟨g2, i.toNat, none⟩ (.int .u8 (y + 1))).heap.size from by rw [World.size_setCell]; exact HS.out)
          clear h255 hr
          go_wp2
          go_region
          obtain ⟨W, HW⟩ : ∃ W, Aside0 (W = (wr.setCell ⟨g2, i.toNat, none⟩ (.int .u8 (y + 1))).drew) := ⟨_, ⟨rfl⟩⟩
          have HO2 := Aside0.mk (show Kd.R (Kd.int .u8) 5 W B (fun _ => True) (.slice (some ⟨g2, 0, none⟩) out.length c) ((zeroed out (j + 1)).set i.toNat (y + 1)) from by rw [HW.out]; exact HPt.out)
          have HG3 := Aside0.mk (show W.heap[b]? = some (.cells #[.pointer (some ⟨g, 0, none⟩), .int .i64 low, .int .i64 width, .slice (some ⟨g2, 0, none⟩) out.length c] 108 (0, 0)) from by rw [HW.out]; exact HG2.out)
          have HL3 := Aside0.mk (show SLikAt W B g lik from by rw [HW.out]; exact HL2.out)
          have HB3 := Aside0.mk (show Below B w W from by rw [HW.out]; exact below_drew HB2.out)
          have HS3 := Aside0.mk (show B ≤ W.heap.size from by rw [HW.out]; exact HS.out)
          rw [← HW.out]
          clear HW hc1 hc3 hf3 hf1 hx hfx HO HG HL HB HS HPt HG2 HL2 HB2
          have HO := HO2
          have HG := HG3
          have HL := HL3
          have HB := HB3
          have HS := HS3
          clear HO2 HG3 HL3 HB3 HS3
          have hc1 : W.cell? ⟨b, 1, none⟩ = some (.int .i64 low) := (blk_cell HG.out 1).trans rfl
          have hc3 : W.cell? ⟨b, 3, none⟩ = some (.slice (some ⟨g2, 0, none⟩) out.length c) := (blk_cell HG.out 3).trans rfl
          have hf3 := blk_frozen HG.out 3
          have hf1 := blk_frozen HG.out 1
          go_wp2_with (first
            | ((with_reducible refine gate_builtin (b := .append) (xs := #[.tmp 59, .tmp 62]) rfl ?_); at_builtin; refine Kd.R_append (Kd.int .u8) (w0 := w) B rfl (.tmp 59) (.tmp 62) 27 5 (.int .u8 0) 1 rfl Try.underlying27 info5 rfl (by decide) (by omega) (.slice (some ⟨g2, 0, none⟩) out.length c) ((zeroed out (j + 1)).set i.toNat (y + 1)) (low / 16777216 - 256) [.int .u8 (low / 16777216 - 256)] (fun _ => True) (fun _ => False) rfl rfl ?aP (fun _ hk => hk.elim) ?aF ?aO ?aB ?aS ?aL ?_; (case aP => exact rfl); (case aF => exact (fun _ _ => trivial)); (case aO => exact HO.out); (case aB => exact HB.out); (case aS => exact HS.out); (case aL => have := HN.out; omega); intro v1 w1 ho hb hg hat; obtain ⟨g1, c1, rfl, -⟩ := Kd.R_form ho (by simp); have G1 := blk_grown HG.out hg (Kd.R_ne HO.out HG.out (by decide)); have L1 := slik_grown HL.out HO.out hg; have k3 : w1.cell? ⟨b, 3, none⟩ = some (.slice (some ⟨g2, 0, none⟩) out.length c) := (blk_cell G1 3).trans rfl; have k1 : w1.cell? ⟨b, 1, none⟩ = some (.int .i64 low) := (blk_cell G1 1).trans rfl; have f3 := blk_frozen G1 3; have f1 := blk_frozen G1 1; have HF := Aside0.mk (senc_put G1 L1 HP.out ho); have HB1 := Aside0.mk (show Below B w (w1.setCell ⟨b, 3, none⟩ _) from hb.setCell HP.out (.slice (some ⟨g1, 0, none⟩) ((zeroed out (j + 1)).set i.toNat (y + 1) ++ [low / 16777216 - 256]).length c1)); clear hb hg hat ho G1 L1))
          go_end0
          exact ⟨rfl, by rw [← HFS.out]; have := senc_low HF.out (low % 16777216 * 256); simp only [List.length_append, List.length_set, List.length_cons, List.length_nil, Nat.zero_add] at this; exact this, by have := HB1.out.setCell (p := ⟨b, 1, none⟩) HP.out (.int .i64 (low % 16777216 * 256)); simp only [List.length_append, List.length_set, List.length_cons, List.length_nil, Nat.zero_add] at this; exact this⟩
  · have hn' : low / 16777216 ≤ 255 := by omega
    have hq : 0 ≤ low / 16777216 := by omega
    have HE := Aside0.mk (show layL out (low / 16777216) = out ++ [low / 16777216] from by unfold layL; rw [if_neg hn, Int.emod_eq_of_lt (by omega) (by omega)])
    rw [HE.out]
    clear HE hn
    have hf1 := blk_frozen HG.out 1
    go_enter Try.func103, Try.ntmps103
    go_wp2_with (first
      | ((with_reducible refine gate_builtin (b := .append) (xs := #[.tmp 59, .tmp 62]) rfl ?_); at_builtin; refine Kd.R_append (Kd.int .u8) (w0 := w) B rfl (.tmp 59) (.tmp 62) 27 5 (.int .u8 0) 1 rfl Try.underlying27 info5 rfl (by decide) (by omega) (v) (out) (low / 16777216) [.int .u8 (low / 16777216)] (fun _ => True) (fun _ => False) rfl rfl ?aP (fun _ hk => hk.elim) ?aF ?aO ?aB ?aS ?aL ?_; (case aP => exact rfl); (case aF => exact (fun _ _ => trivial)); (case aO => exact HO.out); (case aB => exact HB.out); (case aS => exact HS.out); (case aL => have := HN.out; omega); intro v1 w1 ho hb hg hat; obtain ⟨g1, c1, rfl, -⟩ := Kd.R_form ho (by simp); have G1 := blk_grown HG.out hg (Kd.R_ne HO.out HG.out (by decide)); have L1 := slik_grown HL.out HO.out hg; have k3 : w1.cell? ⟨b, 3, none⟩ = some (v) := (blk_cell G1 3).trans rfl; have k1 : w1.cell? ⟨b, 1, none⟩ = some (.int .i64 low) := (blk_cell G1 1).trans rfl; have f3 := blk_frozen G1 3; have f1 := blk_frozen G1 1; have HF := Aside0.mk (senc_put G1 L1 HP.out ho); have HB1 := Aside0.mk (show Below B w (w1.setCell ⟨b, 3, none⟩ _) from hb.setCell HP.out (.slice (some ⟨g1, 0, none⟩) (out ++ [low / 16777216]).length c1)); clear hb hg hat ho G1 L1))
    go_end0
    exact ⟨rfl, by have := senc_low HF.out (low % 16777216 * 256); simp only [List.length_append, List.length_cons, List.length_nil, Nat.zero_add] at this; exact this, by have := HB1.out.setCell (p := ⟨b, 1, none⟩) HP.out (.int .i64 (low % 16777216 * 256)); simp only [List.length_append, List.length_cons, List.length_nil, Nat.zero_add] at this; exact this⟩

/-! ### spec_l09Out_put: function 67 (by hand) -/
theorem senc_lik {W : World} {B b g q c : Nat} {s : Enc} (h : SEncAt W B b g s) (hq : W.cell? ⟨g, 0, none⟩ = some (.slice (some ⟨q, 0, none⟩) s.lik.length c)) (hl : 0 < s.lik.length) (i : Nat) (x : Int) :
    SEncAt (W.setCell ⟨q, i, none⟩ (.int .i64 x)) B b g ⟨s.lik.set i x, s.low, s.width, s.out⟩ := by
  obtain ⟨L, hB, v, G, ho⟩ := h
  have L2 := slik_set L hq hl i x
  obtain ⟨hB2, v2, G2, hR⟩ := L
  have e : W.cell? ⟨g, 0, none⟩ = some v2 := (blk_cell G2 0).trans rfl
  rw [hq] at e
  injection e with e
  subst e
  obtain ⟨q', c', e2, hq0, hq1, cells, hc⟩ := Kd.R_form hR hl
  injection e2 with e2 _ _
  injection e2 with e2
  injection e2 with e2 _ _
  subst e2
  exact ⟨L2, hB, v, blk_far G (blk_ne G hc (by decide)) _, Kd.R_set ho hc (by decide) i _⟩
set_option maxHeartbeats 4000000 in
set_option maxRecDepth 100000 in
theorem sPut_calls (B b g : Nat) (lik : List Int) (low width : Int) (out : List Int) (ctx : Nat) (bit : Int) (hbit : bit = 0 ∨ bit = 1) (w : World) (h : SEncAt w B b g ⟨lik, low, width, out⟩) (hs : EncOk ⟨lik, low, width, out⟩) (hc : ctx < 400) (hl : out.length ≤ 10000000) :
    Calls Try.prog 67 #[.pointer (some ⟨b, 0, none⟩), .int .i64 ctx, .int .i64 bit] w fun e w' => e = .returned (.tuple #[]) ∧ SEncAt w' B b g (putE ⟨lik, low, width, out⟩ ctx bit) ∧ Below B w w' := by
  have hlo : 0 ≤ low := hs.low0
  have hsum : low + width ≤ 8589934592 := hs.sum
  have hw0 : 16777216 ≤ width := hs.w0
  have hw1 : width ≤ 4294967295 := hs.w1
  have hlk : LikOk lik := hs.lik
  have hbo : BytesOk out := hs.out
  have hr := lik_rd hlk (c := (ctx : Int)) (by omega) (by omega)
  have hpr := partE_range hlk hw0 (ctx := (ctx : Int)) (by omega) (by omega)
  have HSZ := Aside0.mk (senc_lt h)
  have HE0 := Aside0.mk h
  have HP := Aside0.mk (show B ≤ b from h.2.1)
  obtain ⟨hb0, hb1, hb2, hf1, hf2, hbl⟩ := senc_cells h
  obtain ⟨q0, c0, h0, hx, hfx, -, -⟩ := slik_cell h.1 ctx (show ctx < lik.length from by rw [hlk.1]; exact hc)
  replace h0 : w.cell? ⟨g, 0, none⟩ = some (.slice (some ⟨q0, 0, none⟩) lik.length c0) := h0
  replace hx : w.cell? ⟨q0, ctx, none⟩ = some (.int .i64 (rd lik (ctx : Int))) := hx
  have HCL := Aside0.mk (show ctx < lik.length from by rw [hlk.1]; exact hc)
  have hcl1 : (ctx : Int) < (lik.length : Int) := by have := HCL.out; omega
  have hcl2 : ctx < lik.length := HCL.out
  obtain ⟨x, HX⟩ : ∃ x, Aside0 (x = rd lik (ctx : Int)) := ⟨_, ⟨rfl⟩⟩
  rw [← HX.out] at hr hx
  obtain ⟨pt, HPT⟩ : ∃ pt, Aside0 (pt = partE lik width (ctx : Int)) := ⟨_, ⟨rfl⟩⟩
  rw [← HPT.out] at hpr
  have hmul : wrap64 (width / 4096 * x) = pt := by
    have e : width / 4096 * x = pt := by rw [HPT.out, HX.out]; rfl
    rw [e]
    exact w64 (by omega) (by omega)
  have hmul2 : IntKind.i64.wrap (width / 4096 * x) = pt := (i64_w _).trans hmul
  obtain ⟨hr0, hr1⟩ := hr
  obtain ⟨hp0, hp1⟩ := hpr
  have HK := Aside0.mk hlk
  have HBO := Aside0.mk hbo
  have HN := Aside0.mk hl
  clear hlk hbo hl
  rcases hbit with rfl | rfl
  · go_enter Try.func67, Try.ntmps67
    go_wp2
    go_quiet (fail)
    go_wp2_with fail
    obtain ⟨W1, HW1⟩ : ∃ W1, Aside0 (W1 = (w.drewN nq).setCell ⟨b, 2, none⟩ (.int .i64 pt)) := ⟨_, ⟨rfl⟩⟩
    have E1 := Aside0.mk (show SEncAt W1 B b g ⟨lik, low, pt, out⟩ from by rw [HW1.out]; exact senc_width (senc_drewN HE0.out _) pt)
    have B1 := Aside0.mk (show Below B w W1 from by rw [HW1.out]; exact (pw_below_drewN (Below.refl B w) _).setCell HP.out _)
    rw [← HW1.out]
    clear HW1 hb1 hb2 hf1 hf2 hb0 hx hfx h0
    obtain ⟨hb0, hb1, hb2, hf1, hf2, hbl1⟩ := senc_cells E1.out
    obtain ⟨q1, c1, h0, hx, hfx, hql, hqB⟩ := slik_cell E1.out.1 ctx HCL.out
    have HX2 := Aside0.mk (show W1.cell? ⟨g, 0, none⟩ = some (.slice (some ⟨q1, 0, none⟩) lik.length c1) from h0)
    replace hx : W1.cell? ⟨q1, ctx, none⟩ = some (.int .i64 (rd lik (ctx : Int))) := hx
    rw [← HX.out] at hx
    refine (sLearn_calls g q1 c1 lik.length ctx x 0 _ h0 hx hfx hr0 hr1 HCL.out).mono ?_
    rintro e w' ⟨rfl, ⟨nl, rfl⟩⟩
    go_wp2
    obtain ⟨W2, HW2⟩ : ∃ W2, Aside0 (W2 = (W1.setCell ⟨q1, ctx, none⟩ (.int .i64 (learnP x 0))).drewN nl) := ⟨_, ⟨rfl⟩⟩
    have E2 := Aside0.mk (show SEncAt W2 B b g ⟨learnL lik ctx 0, low, pt, out⟩ from by
      rw [HW2.out]
      have := senc_lik E1.out HX2.out (show 0 < lik.length from by have := HCL.out; omega) ctx (learnP x 0)
      rw [HX.out] at this ⊢
      exact senc_drewN this _)
    have B2 := Aside0.mk (show Below B w W2 from by rw [HW2.out]; exact pw_below_drewN (B1.out.setCell hqB _) _)
    rw [← HW2.out]
    clear HW2 hb0 hb1 hb2 hf1 hf2 E1 B1 h0 hx hfx HX2 hql hqB
    obtain ⟨hb0, hb1, hb2, hf1, hf2, hbl2⟩ := senc_cells E2.out
    by_cases hsm : pt < 16777216
    · have HE := Aside0.mk (show putE ⟨lik, low, width, out⟩ ctx 0 = ⟨learnL lik ctx 0, low % 16777216 * 256, pt * 256, layL out (low / 16777216)⟩ from by
        have e1 : widthE ⟨lik, low, width, out⟩ ctx 0 = pt := by rw [HPT.out]; rfl
        have e2 : lowE ⟨lik, low, width, out⟩ ctx 0 = low := by first | rfl | (rw [HPT.out]; rfl)
        unfold putE
        rw [e1, e2, if_pos hsm])
      have hq2 : 16777216 ≤ pt * 256 := by omega
      have hq3 : pt * 256 ≤ 4294967296 := by omega
      have hq4 : 16777216 ≤ 256 * pt := by omega
      have hq5 : 256 * pt ≤ 4294967296 := by omega
      refine wp_loop_rounds 2 ?_
      rw [rounds_succ]
      go_wp2_with (go_at_call 103; (with_reducible refine (sLay_calls B b g _ _ _ out _ E2.out HBO.out (by omega) (by omega) (by have := HN.out; omega)).mono ?_); rintro e W3 ⟨rfl, e3, b3⟩; have E3 := Aside0.mk e3; have B3 := Aside0.mk (B2.out.trans b3); clear e3 b3; clear hb0 hb1 hb2 hf1 hf2; obtain ⟨hb0, hb1, hb2, hf1, hf2, hbl3⟩ := senc_cells E3.out)
      rw [rounds_succ]
      go_wp2
      go_end0
      exact ⟨rfl, by rw [HE.out, Int.mul_comm (pt) 256]; exact senc_width E3.out _, B3.out.setCell HP.out _⟩
    · have HE := Aside0.mk (show putE ⟨lik, low, width, out⟩ ctx 0 = ⟨learnL lik ctx 0, low, pt, out⟩ from by
        have e1 : widthE ⟨lik, low, width, out⟩ ctx 0 = pt := by rw [HPT.out]; rfl
        have e2 : lowE ⟨lik, low, width, out⟩ ctx 0 = low := by first | rfl | (rw [HPT.out]; rfl)
        unfold putE
        rw [e1, e2, if_neg hsm])
      have hq2 : 16777216 ≤ pt := by omega
      refine wp_loop_rounds 1 ?_
      rw [rounds_succ]
      go_wp2
      go_end0
      exact ⟨rfl, by rw [HE.out]; exact E2.out, B2.out⟩
  · go_enter Try.func67, Try.ntmps67
    go_wp2
    go_quiet (fail)
    go_wp2_with fail
    obtain ⟨W1, HW1⟩ : ∃ W1, Aside0 (W1 = ((w.drewN nq).setCell ⟨b, 1, none⟩ (.int .i64 (low + pt))).setCell ⟨b, 2, none⟩ (.int .i64 (width - pt))) := ⟨_, ⟨rfl⟩⟩
    have E1 := Aside0.mk (show SEncAt W1 B b g ⟨lik, (low + pt), (width - pt), out⟩ from by rw [HW1.out]; exact senc_width (senc_low (senc_drewN HE0.out _) _) _)
    have B1 := Aside0.mk (show Below B w W1 from by rw [HW1.out]; exact ((pw_below_drewN (Below.refl B w) _).setCell HP.out _).setCell HP.out _)
    rw [← HW1.out]
    clear HW1 hb1 hb2 hf1 hf2 hb0 hx hfx h0
    obtain ⟨hb0, hb1, hb2, hf1, hf2, hbl1⟩ := senc_cells E1.out
    obtain ⟨q1, c1, h0, hx, hfx, hql, hqB⟩ := slik_cell E1.out.1 ctx HCL.out
    have HX2 := Aside0.mk (show W1.cell? ⟨g, 0, none⟩ = some (.slice (some ⟨q1, 0, none⟩) lik.length c1) from h0)
    replace hx : W1.cell? ⟨q1, ctx, none⟩ = some (.int .i64 (rd lik (ctx : Int))) := hx
    rw [← HX.out] at hx
    refine (sLearn_calls g q1 c1 lik.length ctx x 1 _ h0 hx hfx hr0 hr1 HCL.out).mono ?_
    rintro e w' ⟨rfl, ⟨nl, rfl⟩⟩
    go_wp2
    obtain ⟨W2, HW2⟩ : ∃ W2, Aside0 (W2 = (W1.setCell ⟨q1, ctx, none⟩ (.int .i64 (learnP x 1))).drewN nl) := ⟨_, ⟨rfl⟩⟩
    have E2 := Aside0.mk (show SEncAt W2 B b g ⟨learnL lik ctx 1, (low + pt), (width - pt), out⟩ from by
      rw [HW2.out]
      have := senc_lik E1.out HX2.out (show 0 < lik.length from by have := HCL.out; omega) ctx (learnP x 1)
      rw [HX.out] at this ⊢
      exact senc_drewN this _)
    have B2 := Aside0.mk (show Below B w W2 from by rw [HW2.out]; exact pw_below_drewN (B1.out.setCell hqB _) _)
    rw [← HW2.out]
    clear HW2 hb0 hb1 hb2 hf1 hf2 E1 B1 h0 hx hfx HX2 hql hqB
    obtain ⟨hb0, hb1, hb2, hf1, hf2, hbl2⟩ := senc_cells E2.out
    by_cases hsm : (width - pt) < 16777216
    · have HE := Aside0.mk (show putE ⟨lik, low, width, out⟩ ctx 1 = ⟨learnL lik ctx 1, (low + pt) % 16777216 * 256, (width - pt) * 256, layL out ((low + pt) / 16777216)⟩ from by
        have e1 : widthE ⟨lik, low, width, out⟩ ctx 1 = (width - pt) := by rw [HPT.out]; rfl
        have e2 : lowE ⟨lik, low, width, out⟩ ctx 1 = (low + pt) := by first | rfl | (rw [HPT.out]; rfl)
        unfold putE
        rw [e1, e2, if_pos hsm])
      have hq2 : 16777216 ≤ (width - pt) * 256 := by omega
      have hq3 : (width - pt) * 256 ≤ 4294967296 := by omega
      have hq4 : 16777216 ≤ 256 * (width - pt) := by omega
      have hq5 : 256 * (width - pt) ≤ 4294967296 := by omega
      refine wp_loop_rounds 2 ?_
      rw [rounds_succ]
      go_wp2_with (go_at_call 103; (with_reducible refine (sLay_calls B b g _ _ _ out _ E2.out HBO.out (by omega) (by omega) (by have := HN.out; omega)).mono ?_); rintro e W3 ⟨rfl, e3, b3⟩; have E3 := Aside0.mk e3; have B3 := Aside0.mk (B2.out.trans b3); clear e3 b3; clear hb0 hb1 hb2 hf1 hf2; obtain ⟨hb0, hb1, hb2, hf1, hf2, hbl3⟩ := senc_cells E3.out)
      rw [rounds_succ]
      go_wp2
      go_end0
      exact ⟨rfl, by rw [HE.out, Int.mul_comm ((width - pt)) 256]; exact senc_width E3.out _, B3.out.setCell HP.out _⟩
    · have HE := Aside0.mk (show putE ⟨lik, low, width, out⟩ ctx 1 = ⟨learnL lik ctx 1, (low + pt), (width - pt), out⟩ from by
        have e1 : widthE ⟨lik, low, width, out⟩ ctx 1 = (width - pt) := by rw [HPT.out]; rfl
        have e2 : lowE ⟨lik, low, width, out⟩ ctx 1 = (low + pt) := by first | rfl | (rw [HPT.out]; rfl)
        unfold putE
        rw [e1, e2, if_neg hsm])
      have hq2 : 16777216 ≤ (width - pt) := by omega
      refine wp_loop_rounds 1 ?_
      rw [rounds_succ]
      go_wp2
      go_end0
      exact ⟨rfl, by rw [HE.out]; exact E2.out, B2.out⟩

/-! ### spec_l09New: function 101 (by hand) -/
set_option maxHeartbeats 4000000 in
set_option maxRecDepth 100000 in
theorem sNew_calls (w : World) : Calls Try.prog 101 #[] w fun e w' => ∃ g, e = .returned (.pointer (some ⟨g, 0, none⟩)) ∧ SLikAt w' w.heap.size g likL ∧ Below w.heap.size w w' := by
  have HB := Aside0.mk (below_alloc (Below.refl w.heap.size w) (.cells #[.slice none 0 0] 110))
  have HG := Aside0.mk (blk_new w (.cells #[.slice none 0 0] 110))
  go_enter Try.func101, Try.ntmps101
  go_wp2
  go_loopg [2] 400 (fun kq v2 w' => ∃ (k : Nat) (v : Value), v2 = .int .i64 (k : Int) ∧ Aside0 (k + kq = 400) ∧ Aside0 (w'.heap[w.heap.size]? = some (.cells #[v] 110 (0, 0))) ∧ Aside0 (Kd.R (Kd.int .i64) 3 w' w.heap.size (fun _ => True) v (List.replicate k 2048)) ∧ Aside0 (Below w.heap.size w w'))
  case atStart => exact ⟨0, _, rfl, ⟨rfl⟩, HG, ⟨Kd.R_nil _ _ _ _ _⟩, HB⟩
  case round =>
    clear HG HB
    obtain ⟨k, v, rfl, HK, HG, HO, HB⟩ := hrel
    by_cases hk : k < 400
    · have hk2 : (k : Int) < 400 := by omega
      have HS := Aside0.mk (show w.heap.size ≤ wr.heap.size from HB.out.size)
      have hc0 : wr.cell? ⟨w.heap.size, 0, none⟩ = some v := (blk_cell HG.out 0).trans rfl
      have hf0 := blk_frozen HG.out 0
      go_wp2_with (first
        | ((with_reducible refine gate_builtin (b := .append) (xs := #[.tmp 13, .tmp 14]) rfl ?_); at_builtin; refine Kd.R_append (Kd.int .i64) (w0 := w) w.heap.size rfl (.tmp 13) (.tmp 14) 34 3 (.int .i64 0) 8 rfl Try.underlying34 info3 rfl (by decide) (by omega) v (List.replicate k 2048) 2048 [.int .i64 2048] (fun _ => True) (fun _ => False) rfl rfl ?aP (fun _ hk => hk.elim) ?aF ?aO ?aB ?aS ?aL ?_; (case aP => exact rfl); (case aF => exact (fun _ _ => trivial)); (case aO => exact HO.out); (case aB => exact HB.out); (case aS => exact HS.out); (case aL => rw [List.length_replicate]; omega); intro v1 w1 ho hb hg hat; obtain ⟨g1, c1, rfl, -⟩ := Kd.R_form ho (by simp); have G1 := blk_grown HG.out hg (Kd.R_ne HO.out HG.out (by decide)); have k3 : w1.cell? ⟨w.heap.size, 0, none⟩ = some v := (blk_cell G1 0).trans rfl; have f3 := blk_frozen G1 0; have HG1 := Aside0.mk (show (w1.setCell ⟨w.heap.size, 0, none⟩ _).heap[w.heap.size]? = some (.cells #[.slice (some ⟨g1, 0, none⟩) (List.replicate k (2048 : Int) ++ [2048]).length c1] 110 (0, 0)) from by rw [blk_set G1 0]; rfl); have HO1 := Aside0.mk (Kd.R_set ho G1 (by decide) 0 (.slice (some ⟨g1, 0, none⟩) (List.replicate k (2048 : Int) ++ [2048]).length c1)); have HB1 := Aside0.mk (show Below w.heap.size w (w1.setCell ⟨w.heap.size, 0, none⟩ _) from hb.setCell (Nat.le_refl _) (.slice (some ⟨g1, 0, none⟩) (List.replicate k (2048 : Int) ++ [2048]).length c1)); rw [show (List.replicate k (2048 : Int) ++ [2048]) = List.replicate (k + 1) 2048 from (List.replicate_succ' (n := k)).symm, List.length_replicate] at HG1 HO1 HB1; clear hb hg hat ho G1))
      go_roundg (400 - (k + 1))
      case measure => have := HK.out; omega
      case rel =>
        exact ⟨k + 1, .slice (some ⟨g1, 0, none⟩) (k + 1) c1, by first | rfl | go_num | simp, ⟨by have := HK.out; omega⟩, HG1, HO1, HB1⟩
    · have hk2 : ¬ (k : Int) < 400 := by omega
      have e := HK.out
      obtain rfl : k = 400 := by omega
      clear e
      go_wp2
      go_ret
      exact ⟨_, rfl, ⟨Nat.le_refl _, v, HG.out, HO.out⟩, HB.out⟩

/-! ### spec_l09Writer: function 66 (by hand) -/
set_option maxHeartbeats 4000000 in
set_option maxRecDepth 100000 in
theorem sWriter_calls (w : World) : Calls Try.prog 66 #[] w fun e w' => ∃ b g, e = .returned (.pointer (some ⟨b, 0, none⟩)) ∧ SEncAt w' w.heap.size b g startE ∧ Below w.heap.size w w' := by
  go_enter Try.func66, Try.ntmps66
  go_wp2_with (go_at_call 101; (with_reducible refine (sNew_calls _).mono ?_); rintro e w1 ⟨g, rfl, hl, hb⟩; have HL := Aside0.mk hl; have HB := Aside0.mk hb; clear hl hb)
  go_ret
  obtain ⟨hB, v, G, hR⟩ := HL.out
  have hb := below_alloc (Below.refl w1.heap.size w1) (.cells #[.pointer (some ⟨g, 0, none⟩), .int .i64 0, .int .i64 4294967295, .slice none 0 0] 108)
  exact ⟨_, g, rfl, ⟨⟨hB, v, (hb.block g (blk_lt G)).trans G, Kd.R_below hR hb⟩, HB.out.size, _, blk_new w1 _, Kd.R_nil _ _ _ _ _⟩, below_alloc HB.out _⟩

/-! ### spec_l09Out_end: function 68 (by hand) -/
theorem end_lays (out : List Int) (low : Int) (h : 0 ≤ low) : layL (layL (layL (layL out (low / 16777216)) (low % 16777216 * 256 / 16777216)) (low % 16777216 * 256 % 16777216 * 256 / 16777216)) (low % 16777216 * 256 % 16777216 * 256 % 16777216 * 256 / 16777216) =
    layL (layL (layL (layL out (low / 16777216)) (low / 65536 % 256)) (low / 256 % 256)) (low % 256) := by
  congr 1
  · congr 1
    · congr 1
      omega
    · omega
  · omega
set_option maxHeartbeats 4000000 in
set_option maxRecDepth 100000 in
theorem sEnd_calls (B b g : Nat) (lik : List Int) (low width : Int) (out : List Int) (w : World) (h : SEncAt w B b g ⟨lik, low, width, out⟩) (ho : BytesOk out) (h0 : 0 ≤ low) (h1 : low < 8589934592) (hl : out.length ≤ 1000000) :
    Calls Try.prog 68 #[.pointer (some ⟨b, 0, none⟩)] w fun e w' => ∃ v, e = .returned v ∧ Kd.R (Kd.int .u8) 5 w' B (fun _ => True) v (endE ⟨lik, low, width, out⟩) ∧ Below B w w' := by
  have HE0 := Aside0.mk h
  have HEND := Aside0.mk (show endE ⟨lik, low, width, out⟩ = _ from (end_lays out low h0).symm)
  obtain ⟨l1, HL1⟩ : ∃ x, Aside0 (x = low % 16777216 * 256) := ⟨_, ⟨rfl⟩⟩
  obtain ⟨l2, HL2⟩ : ∃ x, Aside0 (x = l1 % 16777216 * 256) := ⟨_, ⟨rfl⟩⟩
  obtain ⟨l3, HL3⟩ : ∃ x, Aside0 (x = l2 % 16777216 * 256) := ⟨_, ⟨rfl⟩⟩
  have r0 := Aside0.mk (show 0 ≤ low ∧ low < 8589934592 from ⟨h0, h1⟩)
  have r1 := Aside0.mk (show 0 ≤ l1 ∧ l1 < 8589934592 from by have := HL1.out; omega)
  have r2 := Aside0.mk (show 0 ≤ l2 ∧ l2 < 8589934592 from by have := HL2.out; omega)
  have r3 := Aside0.mk (show 0 ≤ l3 ∧ l3 < 8589934592 from by have := HL3.out; omega)
  have K0 := Aside0.mk (show BytesOk out ∧ out.length ≤ 1000000 from ⟨ho, hl⟩)
  obtain ⟨o1, HO1⟩ : ∃ o, Aside0 (o = layL out (low / 16777216)) := ⟨_, ⟨rfl⟩⟩
  have K1 := Aside0.mk (show BytesOk o1 ∧ o1.length ≤ 1000001 from by rw [HO1.out]; exact ⟨layL_ok ho _, by rw [layL_length]; omega⟩)
  obtain ⟨o2, HO2⟩ : ∃ o, Aside0 (o = layL o1 (l1 / 16777216)) := ⟨_, ⟨rfl⟩⟩
  have K2 := Aside0.mk (show BytesOk o2 ∧ o2.length ≤ 1000002 from by rw [HO2.out]; exact ⟨layL_ok K1.out.1 _, by rw [layL_length]; have := K1.out.2; omega⟩)
  obtain ⟨o3, HO3⟩ : ∃ o, Aside0 (o = layL o2 (l2 / 16777216)) := ⟨_, ⟨rfl⟩⟩
  have K3 := Aside0.mk (show BytesOk o3 ∧ o3.length ≤ 1000003 from by rw [HO3.out]; exact ⟨layL_ok K2.out.1 _, by rw [layL_length]; have := K2.out.2; omega⟩)
  have HFIN := Aside0.mk (show endE ⟨lik, low, width, out⟩ = layL o3 (l3 / 16777216) from by rw [HEND.out, ← HL1.out, ← HL2.out, ← HL3.out, ← HO1.out, ← HO2.out, ← HO3.out])
  rw [HFIN.out]
  clear HEND HFIN h ho h0 h1 hl
  go_enter Try.func68, Try.ntmps68
  go_wp2
  refine wp_loop_rounds 5 ?_
  rw [rounds_succ]
  go_wp2_with (go_at_call 103; (with_reducible refine (sLay_calls B b g lik low width out _ HE0.out K0.out.1 r0.out.1 r0.out.2 (Nat.le_trans K0.out.2 (by decide))).mono ?_); rintro e W1 ⟨rfl, e1, b1⟩; rw [← HO1.out, ← HL1.out] at e1; have HE1 := Aside0.mk e1; have HB1 := Aside0.mk b1; clear e1 b1)
  rw [rounds_succ]
  go_wp2_with (go_at_call 103; (with_reducible refine (sLay_calls B b g lik l1 width o1 _ HE1.out K1.out.1 r1.out.1 r1.out.2 (Nat.le_trans K1.out.2 (by decide))).mono ?_); rintro e W2 ⟨rfl, e1, b1⟩; rw [← HO2.out, ← HL2.out] at e1; have HE2 := Aside0.mk e1; have HB2 := Aside0.mk (HB1.out.trans b1); clear e1 b1)
  rw [rounds_succ]
  go_wp2_with (go_at_call 103; (with_reducible refine (sLay_calls B b g lik l2 width o2 _ HE2.out K2.out.1 r2.out.1 r2.out.2 (Nat.le_trans K2.out.2 (by decide))).mono ?_); rintro e W3 ⟨rfl, e1, b1⟩; rw [← HO3.out, ← HL3.out] at e1; have HE3 := Aside0.mk e1; have HB3 := Aside0.mk (HB2.out.trans b1); clear e1 b1)
  rw [rounds_succ]
  go_wp2_with (go_at_call 103; (with_reducible refine (sLay_calls B b g lik l3 width o3 _ HE3.out K3.out.1 r3.out.1 r3.out.2 (Nat.le_trans K3.out.2 (by decide))).mono ?_); rintro e W4 ⟨rfl, e1, b1⟩; have HE4 := Aside0.mk e1; have HB4 := Aside0.mk (HB3.out.trans b1); clear e1 b1; obtain ⟨L6, P6, v6, G6, R6⟩ := HE4.out; have hc3 : W4.cell? ⟨b, 3, none⟩ = some v6 := (blk_cell G6 3).trans rfl; have HR6 := Aside0.mk R6; clear L6 P6 G6 R6)
  rw [rounds_succ]
  go_wp2
  go_ret
  exact ⟨_, rfl, HR6.out, HB4.out⟩

end Go.Proofs.Ytdeheflbigggbaa.CB
