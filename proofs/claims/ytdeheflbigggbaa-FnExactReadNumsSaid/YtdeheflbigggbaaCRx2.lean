/- Functions that a law of this seat reaches: written by a program of this session (wip/xprint.py), and by hand. -/
import Derived.Test.YtdeheflbigggbaaCRx0
namespace Go.Proofs.Ytdeheflbigggbaa.CR
open Go.RowKit Go.Proofs.Ytdeheflbigggbaa.B Go.Proofs.YtdeheflbigggbaaW.PrintWords Go.Proofs.YtdeheflbigggbaaW.PrintLast Go.Proofs.YtdeheflbigggbaaW.PrintMore
attribute [local go_sem] max2_int min2_int max_two min_two max_three min_three max_four min_four   -- for this text's walks alone
set_option linter.unusedVariables false
set_option linter.unusedSimpArgs false

/-! ### impl_within: function 75 -/
def impl_within.f (a0 : Int) (a1 : Int) (a2 : Int) : Option (Bool) := if a0 ≥ a1 then (some (decide (a0 ≤ a2))) else (some false)
set_option maxHeartbeats 8000000 in
set_option maxRecDepth 100000 in
theorem impl_within.calls (a0 : Int) (a1 : Int) (a2 : Int) (r : Bool) (w : World) (h : impl_within.f a0 a1 a2 = some r) :
    Calls Try.prog 75 #[.int .i64 a0, .int .i64 a1, .int .i64 a2] w fun e w' => e = .returned (.bool r) ∧ Drawn0 w w' := by
  have H : (if a0 ≥ a1 then (some (decide (a0 ≤ a2))) else (some false)) = some r := h
  clear h
  by_cases c4 : a0 ≥ a1
  · rw [if_pos c4] at H
    have c4b0 : decide (a1 ≤ a0) = true := decide_eq_true c4
    clear c4
    obtain rfl := Option.some.inj H
    go_enter Try.func75, Try.ntmps75
    go_wp2
    go_ret
    exact ⟨by first | rfl | (simp; done) | (simp [*]; done), by repeat (first | exact Drawn0.refl _ | apply Drawn0.step)⟩
  · rw [if_neg c4] at H
    have c4b0 : decide (a1 ≤ a0) = false := decide_eq_false c4
    clear c4
    obtain rfl := Option.some.inj H
    go_enter Try.func75, Try.ntmps75
    go_wp2
    go_ret
    exact ⟨by first | rfl | (simp; done) | (simp [*]; done), by repeat (first | exact Drawn0.refl _ | apply Drawn0.step)⟩

theorem within_f (a b c : Int) : impl_within.f a b c = some (inR a b c) := inR_ite a b c

/-! ### impl_isBase: function 61 -/
def impl_isBase.f (a0 : Int) : Option (Bool) := (impl_within.f a0 0 380).bind fun t113 => (some t113)
set_option maxHeartbeats 8000000 in
set_option maxRecDepth 100000 in
theorem impl_isBase.calls (a0 : Int) (r : Bool) (w : World) (h : impl_isBase.f a0 = some r) :
    Calls Try.prog 61 #[.int .i64 a0] w fun e w' => e = .returned (.bool r) ∧ Drawn0 w w' := by
  have H : ((impl_within.f a0 0 380).bind fun t113 => (some t113)) = some r := h
  clear h
  replace H := Option.bind_eq_some_iff.mp H
  obtain ⟨t113, A20, H⟩ := H
  replace H : (some t113) = some r := H
  have A2 := Aside0.mk A20
  clear A20
  obtain rfl := Option.some.inj H
  go_enter Try.func61, Try.ntmps61
  go_wp2_with (first | ((with_reducible refine gate_callee (f := 75) rfl ?_); refine goesL_ (some 4) rfl rfl Try.func75 (by kernel_rfl) rfl #[.int .i64 a0, .int .i64 0, .int .i64 380] rfl (by (try simp only [List.map_toArray, List.map_cons, List.map_nil]); first | done | rfl | (simp only [List.length_drop, List.length_take]; rfl)) ?_; (with_reducible refine (impl_within.calls a0 0 380 t113 _ A2.out).mono ?_); rintro e w' ⟨rfl, ⟨nd, rfl⟩⟩; refine ⟨_, rfl, ?_⟩))
  go_ret
  exact ⟨by first | rfl | (simp; done) | (simp [*]; done), by repeat (first | exact Drawn0.refl _ | apply Drawn0.step)⟩

def baseB (n : Int) : Bool := inR n 0 380
theorem isBase_f (n : Int) : impl_isBase.f n = some (baseB n) := by
  unfold impl_isBase.f
  rw [within_f]
  rfl

/-! ### impl_likelihoods_learn: function 106 (by hand) -/
/-- The likelihoods of the contexts, in an array at block p. -/
def LikAt (W : World) (p : Nat) (lik : List Int) : Prop := W.heap[p]? = some (.cells (nums .i64 lik).toArray 126 (0, 0))
theorem lik_cell {W : World} {p : Nat} {lik : List Int} (h : LikAt W p lik) (i : Nat) (hi : i < lik.length) : W.cell? ⟨p, i, none⟩ = some (.int .i64 (rd lik i)) := by
  rw [blk_cell h i, rd_nat hi]
  simp [nums, hi]
theorem lik_set {W : World} {p : Nat} {lik : List Int} (h : LikAt W p lik) (i : Nat) (x : Int) : LikAt (W.setCell ⟨p, i, none⟩ (.int .i64 x)) p (lik.set i x) := by
  unfold LikAt
  rw [blk_set h i]
  simp [nums, List.map_set]
set_option maxHeartbeats 4000000 in
set_option maxRecDepth 100000 in
theorem iLearn_calls (p : Nat) (lik : List Int) (ctx : Nat) (bit : Int) (w : World) (h : LikAt w p lik) (hl : LikOk lik) (hc : ctx < 400) :
    Calls Try.prog 106 #[.pointer (some ⟨p, 0, none⟩), .int .i64 ctx, .int .i64 bit] w fun e w' => e = .returned (.tuple #[]) ∧ ∃ n, w' = (w.setCell ⟨p, ctx, none⟩ (.int .i64 (learnP (rd lik ctx) bit))).drewN n := by
  have hx := lik_cell h ctx (by rw [hl.1]; exact hc)
  have hf := blk_frozen h ctx
  have hr := lik_rd hl (c := (ctx : Int)) (by omega) (by omega)
  generalize rd lik (ctx : Int) = x at hx hr ⊢
  clear h
  have hlt : (ctx : Int) < 400 := by omega
  obtain ⟨hr0, hr1⟩ := hr
  by_cases hb : bit = 0
  · subst hb
    have HE := Aside0.mk (show learnP x 0 = x + (4096 - x) / 32 from rfl)
    rw [HE.out]
    clear HE
    go_enter Try.func106, Try.ntmps106
    go_wp2
    go_region
    go_end0
    exact ⟨rfl, 1, rfl⟩
  · have hb0 : (bit == 0) = false := beq_eq_false_iff_ne.mpr hb
    have HE := Aside0.mk (show learnP x bit = x - x / 32 from by unfold learnP; rw [if_neg hb])
    rw [HE.out]
    clear HE hb
    go_enter Try.func106, Try.ntmps106
    go_wp2
    go_region
    go_end0
    exact ⟨rfl, 1, rfl⟩

/-! ### impl_newLikelihoods: function 98 (by hand) -/
def likK (k : Nat) : List Int := List.replicate k 2048 ++ List.replicate (400 - k) 0
theorem likK_length {k : Nat} (h : k ≤ 400) : (likK k).length = 400 := by simp only [likK, List.length_append, List.length_replicate]; omega
theorem likK_all : likK 400 = likL := by
  unfold likK likL
  rw [Nat.sub_self, List.replicate_zero, List.append_nil]
theorem likK_set {k : Nat} (h : k < 400) : (likK k).set k 2048 = likK (k + 1) := by
  unfold likK
  rw [List.set_append_right _ _ (by rw [List.length_replicate]; exact Nat.le_refl _), List.length_replicate, Nat.sub_self, show 400 - k = (400 - (k + 1)) + 1 from by omega, List.replicate_succ (n := 400 - (k + 1)), List.set_cons_zero, List.replicate_succ' (n := k), List.append_assoc]
  rfl
theorem lik_zero (w : World) : LikAt (w.alloc (.cells Try.zeroCells126 126)) w.heap.size (likK 0) := by
  unfold LikAt
  rw [blk_new]
  exact congrArg (fun c => some (Obj.cells c 126 (0, 0))) (by kernel_rfl)
set_option maxHeartbeats 4000000 in
set_option maxRecDepth 100000 in
theorem iNewLik_calls (w : World) : Calls Try.prog 98 #[] w fun e w' => ∃ p, e = .returned (.pointer (some ⟨p, 0, none⟩)) ∧ LikAt w' p likL ∧ w.heap.size ≤ p ∧ Below w.heap.size w w' := by
  have HL := Aside0.mk (lik_zero w)
  have HB := Aside0.mk (below_alloc (Below.refl w.heap.size w) (.cells Try.zeroCells126 126))
  go_enter Try.func98, Try.ntmps98
  go_wp2
  go_loopg [5] 400 (fun kq v5 w' => ∃ (k : Nat), v5 = .int .i64 (k : Int) ∧ Aside0 (k + kq = 400) ∧ Aside0 (LikAt w' w.heap.size (likK k)) ∧ Aside0 (Below w.heap.size w w'))
  case atStart => exact ⟨0, rfl, ⟨rfl⟩, HL, HB⟩
  case round =>
    clear HL HB
    obtain ⟨k, rfl, HK, HL, HB⟩ := hrel
    by_cases hk : k < 400
    · have hx := lik_cell HL.out k (by rw [likK_length (by omega)]; exact hk)
      have hf := blk_frozen HL.out k
      have hk2 : (k : Int) < 400 := by omega
      go_wp2
      go_roundg (400 - (k + 1))
      case measure => have := HK.out; omega
      case rel =>
        refine ⟨k + 1, by simp, ⟨by omega⟩, ⟨?_⟩, ⟨HB.out.setCell (Nat.le_refl _) _⟩⟩
        have := lik_set HL.out k 2048
        rw [likK_set hk] at this
        exact this
    · have hk2 : ¬ (k : Int) < 400 := by omega
      have e := HK.out
      obtain rfl : k = 400 := by omega
      clear e
      go_wp2
      go_ret
      exact ⟨_, rfl, by rw [← likK_all]; exact HL.out, Nat.le_refl _, HB.out⟩

/-! ### impl_binReader_next: function 105 (by hand) -/
/-- The reader of bits, at block r; its likelihoods at block p; what it has still to read came in by w0. -/
def DecAt (w0 W : World) (r p : Nat) (bs : List Int) (s : Dec) : Prop :=
  LikAt W p s.lik ∧ (w0.heap.size ≤ p ∧ w0.heap.size ≤ r) ∧ ∃ A c, W.heap[r]? = some (.cells #[.pointer (some ⟨p, 0, none⟩), .int .i64 s.code, .int .i64 s.width, .slice A (bs.drop s.at_).length c] 114 (0, 0)) ∧
    (bs.drop s.at_).length ≤ c ∧ Kd.C (Kd.int .u8) w0 A (bs.drop s.at_).length (bs.drop s.at_)
theorem byteAt_drop (b : List Int) (n : Nat) : byteAt b n = rd (b.drop n) 0 := by
  unfold byteAt
  split
  · rename_i h
    rw [rd_nat h, show (0 : Int) = ((0 : Nat) : Int) from rfl, rd_nat (by rw [List.length_drop]; omega)]
    simp
  · rw [List.drop_eq_nil_of_le (by omega)]
    rfl
theorem dec_set {w0 W : World} {r p : Nat} {bs : List Int} {lik : List Int} {code width : Int} {n : Nat} (h : DecAt w0 W r p bs ⟨lik, code, width, n⟩) {A : Option Addr} {c : Nat} (m : Nat) (hl : (bs.drop m).length ≤ c) (hC : Kd.C (Kd.int .u8) w0 A (bs.drop m).length (bs.drop m)) :
    DecAt w0 (W.setCell ⟨r, 3, none⟩ (.slice A (bs.drop m).length c)) r p bs ⟨lik, code, width, m⟩ := by
  obtain ⟨L, hB, A0, c0, G, _, _⟩ := h
  refine ⟨blk_far L (blk_ne L G (by decide)) _, hB, A, c, ?_, hl, hC⟩
  rw [blk_set G 3]
  rfl
theorem keep_row {w w1 : World} {g p : Nat} (h : KeepBut w w1 g (some p)) (i : Nat) (u : Value) : KeepBut w (w1.setCell ⟨p, i, none⟩ u) g (some p) :=
  ⟨by rw [World.size_setCell]; exact h.1, fun k hk h1 h2 => (Below.heap_setCell w1 _ u k (fun e => h2 (by rw [e]))).trans (h.2 k hk h1 h2)⟩
theorem dec_drewN {w0 W : World} {r p : Nat} {bs : List Int} {s : Dec} (h : DecAt w0 W r p bs s) (n : Nat) : DecAt w0 (W.drewN n) r p bs s := h
theorem dec_drew {w0 W : World} {r p : Nat} {bs : List Int} {s : Dec} (h : DecAt w0 W r p bs s) : DecAt w0 W.drew r p bs s := h
theorem bytes_next {w0 : World} {A : Option Addr} {l : List Int} {c : Nat} (hC : Kd.C (Kd.int .u8) w0 A l.length l) (hl : l.length ≤ c) (h1 : 1 ≤ l.length) : Kd.C (Kd.int .u8) w0 (if c = 1 then A else A.map (·.add 1)) (l.drop 1).length (l.drop 1) := by
  have := ReadsInt.drop_ (readsInt_of.2 (Kd.reads_of_C (d := 0) hC)) 1 h1 hl
  rw [List.length_drop]
  exact Kd.C_of_reads (readsInt_of.1 this)
set_option maxHeartbeats 4000000 in
set_option maxRecDepth 100000 in
theorem iNext_calls (r p : Nat) (bs : List Int) (lik : List Int) (code width : Int) (n : Nat) (w0 W : World) (h : DecAt w0 W r p bs ⟨lik, code, width, n⟩) (hb : Below w0.heap.size w0 W) (hbs : BytesOk bs) :
    Calls Try.prog 105 #[.pointer (some ⟨r, 0, none⟩)] W fun e w' => e = .returned (.int .i64 (byteAt bs n)) ∧ DecAt w0 w' r p bs ⟨lik, code, width, n + 1⟩ ∧ Below w0.heap.size W w' ∧ KeepBut W w' r (some p) := by
  have HD := Aside0.mk h
  by_cases hn : bs.length ≤ n
  · have e0 : bs.drop n = [] := List.drop_eq_nil_of_le hn
    have e1 : bs.drop (n + 1) = [] := List.drop_eq_nil_of_le (by omega)
    have HE := Aside0.mk (show DecAt w0 W r p bs ⟨lik, code, width, n + 1⟩ from by
      have h2 := h
      unfold DecAt at h2 ⊢
      simp only [] at h2 ⊢
      rw [e0] at h2
      rw [e1]
      exact h2)
    obtain ⟨L, hP, A, c, G, hle, hC⟩ := h
    simp only [] at G
    rw [e0] at G
    have hc3 : W.cell? ⟨r, 3, none⟩ = some (.slice A 0 c) := (blk_cell G 3).trans rfl
    have HBY := Aside0.mk (show byteAt bs n = 0 from by unfold byteAt; rw [if_neg (by omega)])
    rw [HBY.out]
    clear HBY L hP G hb hle hC e0 e1 hn
    go_enter Try.func105, Try.ntmps105
    go_wp2
    go_ret
    exact ⟨rfl, HE.out, Below.refl _ _, KeepBut.refl _ _ _⟩
  · obtain ⟨L, hP, A, c, G, hle, hC⟩ := h
    have HP := Aside0.mk hP
    have HB := Aside0.mk hb
    have hc3 : W.cell? ⟨r, 3, none⟩ = some (.slice A (bs.drop n).length c) := (blk_cell G 3).trans rfl
    have hf3 := blk_frozen G 3
    have HBY := Aside0.mk (byteAt_drop bs n)
    rw [HBY.out]
    clear HBY L hP G hb
    have HN := Aside0.mk (show bs.drop (n + 1) = (bs.drop n).drop 1 from by rw [List.drop_drop])
    have HD1 := Aside0.mk (fun (A : Option Addr) (c : Nat) => dec_set (A := A) (c := c) HD.out (n + 1))
    rw [HN.out] at HD1
    have hbd : ∀ x ∈ bs.drop n, 0 ≤ x ∧ x ≤ 255 := fun x hx => hbs x (List.mem_of_mem_drop hx)
    have hne : bs.drop n ≠ [] := fun h => hn (List.drop_eq_nil_iff.1 h)
    generalize bs.drop n = l at hc3 hle hC HD1 hbd hne ⊢
    clear HN
    rcases l with _ | ⟨x, l⟩
    · exact absurd rfl hne
    · have hx0 := hbd x (by simp)
      obtain ⟨ad, e, hx⟩ := Kd.at_int hC 0 (by omega) (by simp)
      subst e
      replace hx : W.cell? ad = some (.int .u8 x) := pw_cell_below HB.out hx
      obtain ⟨hx0, hx1⟩ := hx0
      have HX := Aside0.mk (show rd (x :: l) 0 = x from rfl)
      rw [HX.out]
      have HC := Aside0.mk (bytes_next hC hle (by simp))
      have HL := Aside0.mk (show l.length + 1 ≤ c from hle)
      clear hC hle hbd hne hn
      by_cases hc1 : c = 1
      · subst hc1
        have HE := Aside0.mk (HD1.out (some ad) 0 (by show l.length ≤ 0; have := HL.out; omega) (by have := HC.out; rw [if_pos rfl] at this; exact this))
        go_enter Try.func105, Try.ntmps105
        go_wp2
        go_ret
        exact ⟨rfl, HE.out, (Below.refl _ _).setCell HP.out.2 _, (KeepBut.refl _ _ _).set_ _ _⟩
      · have hl1 : l.length + 1 ≤ c := HL.out
        have HE := Aside0.mk (HD1.out (some ⟨ad.block, ad.off + 1, none⟩) (c - 1) (by show l.length ≤ c - 1; have := HL.out; omega) (by
          have := HC.out
          rw [if_neg hc1] at this
          exact this))
        go_enter Try.func105, Try.ntmps105
        go_wp2
        go_ret
        exact ⟨rfl, HE.out, (Below.refl _ _).setCell HP.out.2 _, (KeepBut.refl _ _ _).set_ _ _⟩

/-! ### impl_newBinReader: function 72 (by hand) -/
theorem dec_code {w0 W : World} {r p : Nat} {bs : List Int} {lik : List Int} {code width : Int} {n : Nat} (h : DecAt w0 W r p bs ⟨lik, code, width, n⟩) (x : Int) : DecAt w0 (W.setCell ⟨r, 1, none⟩ (.int .i64 x)) r p bs ⟨lik, x, width, n⟩ := by
  obtain ⟨L, hB, A0, c0, G, h1, h2⟩ := h
  refine ⟨blk_far L (blk_ne L G (by decide)) _, hB, A0, c0, ?_, h1, h2⟩
  rw [blk_set G 1]
  rfl
theorem dec_width {w0 W : World} {r p : Nat} {bs : List Int} {lik : List Int} {code width : Int} {n : Nat} (h : DecAt w0 W r p bs ⟨lik, code, width, n⟩) (x : Int) : DecAt w0 (W.setCell ⟨r, 2, none⟩ (.int .i64 x)) r p bs ⟨lik, code, x, n⟩ := by
  obtain ⟨L, hB, A0, c0, G, h1, h2⟩ := h
  refine ⟨blk_far L (blk_ne L G (by decide)) _, hB, A0, c0, ?_, h1, h2⟩
  rw [blk_set G 2]
  rfl
theorem dec_lik {w0 W : World} {r p : Nat} {bs : List Int} {lik : List Int} {code width : Int} {n : Nat} (h : DecAt w0 W r p bs ⟨lik, code, width, n⟩) (i : Nat) (x : Int) : DecAt w0 (W.setCell ⟨p, i, none⟩ (.int .i64 x)) r p bs ⟨lik.set i x, code, width, n⟩ := by
  obtain ⟨L, hB, A0, c0, G, h1, h2⟩ := h
  exact ⟨lik_set L i x, hB, A0, c0, blk_far G (fun e => blk_ne L G (by decide) e.symm) _, h1, h2⟩
theorem dec_cells {w0 W : World} {r p : Nat} {bs : List Int} {lik : List Int} {code width : Int} {n : Nat} (h : DecAt w0 W r p bs ⟨lik, code, width, n⟩) :
    W.cell? ⟨r, 0, none⟩ = some (.pointer (some ⟨p, 0, none⟩)) ∧ W.cell? ⟨r, 1, none⟩ = some (.int .i64 code) ∧ W.cell? ⟨r, 2, none⟩ = some (.int .i64 width) ∧ W.frozen? ⟨r, 1, none⟩ = false ∧ W.frozen? ⟨r, 2, none⟩ = false ∧ r < W.heap.size ∧ p < W.heap.size ∧ w0.heap.size ≤ r ∧ w0.heap.size ≤ p := by
  obtain ⟨L, hB, A0, c0, G, h1, h2⟩ := h
  exact ⟨(blk_cell G 0).trans rfl, (blk_cell G 1).trans rfl, (blk_cell G 2).trans rfl, blk_frozen G 1, blk_frozen G 2, blk_lt G, blk_lt L, hB.2, hB.1⟩
theorem numAt_range {b : List Int} (h : BytesOk b) : ∀ k : Nat, 0 ≤ numAt b k ∧ numAt b k < 256 ^ k
  | 0 => by simp [numAt]
  | k + 1 => by
    have h1 := numAt_range h k
    have h2 := byteAt_range h k
    rw [pow_step]
    unfold numAt
    omega
theorem numAt_start {b : List Int} : (⟨likL, numAt b 4, 4294967295, 4⟩ : Dec) = startD b := by
  unfold startD
  congr 1
  simp only [numAt]
  omega
def GotReader (w0 : World) (bs : List Int) (e : Ending) (w' : World) : Prop := ∃ r p, e = .returned (.pointer (some ⟨r, 0, none⟩)) ∧ DecAt w0 w' r p bs (startD bs) ∧ Below w0.heap.size w0 w'
set_option maxHeartbeats 4000000 in
set_option maxRecDepth 100000 in
theorem iNewReader_calls (A : Option Addr) (c : Nat) (bs : List Int) (w0 W : World) (hr : Kd.C (Kd.int .u8) w0 A bs.length bs) (hl : bs.length ≤ c) (hb : Below w0.heap.size w0 W) (hbs : BytesOk bs) :
    Calls Try.prog 72 #[.slice A bs.length c] W (GotReader w0 bs) := by
  have HR := Aside0.mk hr
  have HL := Aside0.mk hl
  have HB := Aside0.mk hb
  have HBS := Aside0.mk hbs
  clear hr hl hb hbs
  go_enter Try.func72, Try.ntmps72
  go_wp2_with (go_at_call 98; (with_reducible refine (iNewLik_calls _).mono ?_); rintro e w1 ⟨p, rfl, hlk, hp, hb⟩; have HLK := Aside0.mk hlk; have HP := Aside0.mk hp; have HB1 := Aside0.mk (below_step HB.out hb); clear hlk hp hb)
  obtain ⟨W2, HW2⟩ : ∃ W2, Aside0 (W2 = w1.alloc (.cells #[.pointer (some ⟨p, 0, none⟩), .int .i64 0, .int .i64 4294967295, .slice A bs.length c] 114)) := ⟨_, ⟨rfl⟩⟩
  have HD := Aside0.mk (show DecAt w0 W2 w1.heap.size p bs ⟨likL, numAt bs 0, 4294967295, 0⟩ from by
    rw [HW2.out]
    have hb2 := below_alloc (Below.refl w1.heap.size w1) (.cells #[.pointer (some ⟨p, 0, none⟩), .int .i64 0, .int .i64 4294967295, .slice A bs.length c] 114)
    exact ⟨(hb2.block p (blk_lt HLK.out)).trans HLK.out, ⟨Nat.le_trans (below_size HB.out) HP.out, below_size HB1.out⟩, A, c, blk_new w1 _, HL.out, HR.out⟩)
  have HB2 := Aside0.mk (show Below w0.heap.size w0 W2 from by rw [HW2.out]; exact below_alloc HB1.out _)
  obtain ⟨r, HRR⟩ : ∃ r, Aside0 (r = w1.heap.size) := ⟨_, ⟨rfl⟩⟩
  rw [← HRR.out] at HD
  rw [← HW2.out, ← HRR.out]
  clear HW2 HB HB1 HLK HP HRR
  go_loopg [8] 4 (fun kq v8 w' => ∃ (k : Nat), v8 = .int .i64 (k : Int) ∧ Aside0 (k + kq = 4) ∧ Aside0 (DecAt w0 w' r p bs ⟨likL, numAt bs k, 4294967295, k⟩) ∧ Aside0 (Below w0.heap.size w0 w'))
  case atStart => exact ⟨0, rfl, ⟨rfl⟩, HD, HB2⟩
  case round =>
    clear HD HB2
    obtain ⟨k, rfl, HQ, HD, HB⟩ := hrel
    by_cases hk : k < 4
    · have hk2 : (k : Int) < 4 := by omega
      have hnr := numAt_range HBS.out k
      have hn1 : numAt bs k ≤ 16777215 := by
        obtain rfl | rfl | rfl | rfl : k = 0 ∨ k = 1 ∨ k = 2 ∨ k = 3 := by omega
        all_goals have := hnr.2; omega
      have hn0 : 0 ≤ numAt bs k := hnr.1
      have hby := byteAt_range HBS.out k
      have HNX := Aside0.mk (show numAt bs (k + 1) = numAt bs k * 256 + byteAt bs k from by show 256 * numAt bs k + byteAt bs k = _; omega)
      clear hnr
      obtain ⟨hb0, hb1⟩ := hby
      obtain ⟨h0, h1, h2, f1, f2, hrl, hpl, hr0, hp0⟩ := dec_cells HD.out
      generalize HM : numAt bs k = m at hn0 hn1 HNX HD h1
      generalize HY : byteAt bs k = y at hb0 hb1 HNX
      have HY2 := Aside0.mk HY
      clear HM HY
      go_wp2
      go_region_with (go_at_call 105; (with_reducible refine (iNext_calls r p bs likL m 4294967295 k w0 _ (dec_drew HD.out) (below_drew HB.out) HBS.out).mono ?_); rintro e W3 ⟨rfl, d3, b3, -⟩; rw [HY2.out]; have D3 := Aside0.mk d3; have B3 := Aside0.mk ((below_drew HB.out).trans b3); clear d3 b3; obtain ⟨g0, g1, g2, e1, e2, -, -, -, -⟩ := dec_cells D3.out)
      all_goals
        go_wp2
        go_roundg (4 - (k + 1))
        case measure => have := HQ.out; omega
        case rel => exact ⟨k + 1, by first | rfl | go_num | simp, ⟨by have := HQ.out; omega⟩, ⟨by rw [HNX.out]; exact dec_code D3.out _⟩, ⟨B3.out.setCell hr0 _⟩⟩
    · have hk2 : ¬ (k : Int) < 4 := by omega
      have e := HQ.out
      obtain rfl : k = 4 := by omega
      clear e
      go_wp2
      go_ret
      exact ⟨r, p, rfl, by rw [← numAt_start]; exact HD.out, HB.out⟩

/-! ### impl_binReader_bit: function 73 (by hand) -/
set_option maxHeartbeats 4000000 in
set_option maxRecDepth 100000 in
theorem iBit_calls (r p : Nat) (bs : List Int) (lik : List Int) (code width : Int) (n ctx : Nat) (w0 W : World) (h : DecAt w0 W r p bs ⟨lik, code, width, n⟩) (hs : DecOk ⟨lik, code, width, n⟩) (hc : ctx < 400) (hb : Below w0.heap.size w0 W) (hbs : BytesOk bs) :
    Calls Try.prog 73 #[.pointer (some ⟨r, 0, none⟩), .int .i64 ctx] W fun e w' => e = .returned (.int .i64 (bitD ⟨lik, code, width, n⟩ ctx)) ∧ DecAt w0 w' r p bs (stepD bs ⟨lik, code, width, n⟩ ctx) ∧ Below w0.heap.size w0 w' ∧ KeepBut W w' r (some p) := by
  have hc0 : 0 ≤ code := hs.c0
  have hc1 : code ≤ 4294967295 := hs.c1
  have hw0 : 16777216 ≤ width := hs.w0
  have hw1 : width ≤ 4294967295 := hs.w1
  have hlk : LikOk lik := hs.lik
  have hr := lik_rd hlk (c := (ctx : Int)) (by omega) (by omega)
  have hpr := partE_range hlk hw0 (ctx := (ctx : Int)) (by omega) (by omega)
  have HD0 := Aside0.mk h
  have HB := Aside0.mk hb
  have HBS := Aside0.mk hbs
  obtain ⟨hb0, hb1, hb2, hf1, hf2, hrl, hpl, hrB, hpB⟩ := dec_cells h
  have hcl := lik_cell h.1 ctx (show ctx < lik.length from by rw [hlk.1]; exact hc)
  replace hcl : W.cell? ⟨p, ctx, none⟩ = some (.int .i64 (rd lik (ctx : Int))) := hcl
  obtain ⟨x, HX⟩ : ∃ x, Aside0 (x = rd lik (ctx : Int)) := ⟨_, ⟨rfl⟩⟩
  rw [← HX.out] at hr hcl
  obtain ⟨pt, HPT⟩ : ∃ pt, Aside0 (pt = partE lik width (ctx : Int)) := ⟨_, ⟨rfl⟩⟩
  rw [← HPT.out] at hpr
  have hmul : wrap64 (width / 4096 * x) = pt := by
    have e : width / 4096 * x = pt := by rw [HPT.out, HX.out]; rfl
    rw [e]
    exact w64 (by omega) (by omega)
  have hmul2 : IntKind.i64.wrap (width / 4096 * x) = pt := (i64_w _).trans hmul
  obtain ⟨hr0, hr1⟩ := hr
  obtain ⟨hp0, hp1⟩ := hpr
  have HK := Aside0.mk hlk
  have hlt : (ctx : Int) < 400 := by omega
  clear hlk h hb hbs
  by_cases hcmp : code < pt
  · have HBD := Aside0.mk (show bitD ⟨lik, code, width, n⟩ ctx = 0 from by unfold bitD; simp only []; rw [← HPT.out, if_pos hcmp])
    have HCD := Aside0.mk (show codeD ⟨lik, code, width, n⟩ ctx = code from by unfold codeD; simp only []; rw [← HPT.out, if_pos hcmp])
    have HWD := Aside0.mk (show widthD ⟨lik, code, width, n⟩ ctx = pt from by unfold widthD; simp only []; rw [← HPT.out, if_pos hcmp])
    go_enter Try.func73, Try.ntmps73
    go_wp2
    go_quiet (fail)
    go_wp2_with fail
    obtain ⟨W1, HW1⟩ : ∃ W1, Aside0 (W1 = (W.drewN nq).setCell ⟨r, 2, none⟩ (.int .i64 pt)) := ⟨_, ⟨rfl⟩⟩
    have D1 := Aside0.mk (show DecAt w0 W1 r p bs ⟨lik, code, pt, n⟩ from by rw [HW1.out]; exact dec_width (dec_drewN HD0.out _) pt)
    have B1 := Aside0.mk (show Below w0.heap.size w0 W1 from by rw [HW1.out]; exact (pw_below_drewN HB.out _).setCell hrB _)
    have K1 := Aside0.mk (show KeepBut W W1 r (some p) from by rw [HW1.out]; exact (show KeepBut W (W.drewN nq) r (some p) from KeepBut.refl _ _ _).set_ _ _)
    rw [← HW1.out]
    clear HW1 hb1 hb2 hf1 hf2 hb0 hcl
    obtain ⟨hb0, hb1, hb2, hf1, hf2, hrl1, hpl1, -, -⟩ := dec_cells D1.out
    go_wp2_with fail
    refine (iLearn_calls p lik ctx 0 _ D1.out.1 HK.out hc).mono ?_
    rintro e w' ⟨rfl, ⟨nl, rfl⟩⟩
    obtain ⟨W2, HW2⟩ : ∃ W2, Aside0 (W2 = (W1.setCell ⟨p, ctx, none⟩ (.int .i64 (learnP (rd lik ctx) 0))).drewN nl) := ⟨_, ⟨rfl⟩⟩
    have D2 := Aside0.mk (show DecAt w0 W2 r p bs ⟨learnL lik ctx 0, code, pt, n⟩ from by rw [HW2.out]; exact dec_drewN (dec_lik D1.out ctx _) _)
    have B2 := Aside0.mk (show Below w0.heap.size w0 W2 from by rw [HW2.out]; exact pw_below_drewN (B1.out.setCell hpB _) _)
    have K2 := Aside0.mk (show KeepBut W W2 r (some p) from by rw [HW2.out]; exact keep_row K1.out _ _)
    rw [← HW2.out]
    clear HW2 hb0 hb1 hb2 hf1 hf2 D1 B1 K1
    go_wp2
    obtain ⟨hb0, hb1, hb2, hf1, hf2, hrl2, hpl2, -, -⟩ := dec_cells D2.out
    by_cases hsm : pt < 16777216
    · have HE := Aside0.mk (show stepD bs ⟨lik, code, width, n⟩ ctx = ⟨learnL lik ctx 0, code % 16777216 * 256 + byteAt bs n, pt * 256, n + 1⟩ from by
        unfold stepD
        rw [HWD.out, HBD.out, HCD.out, if_pos hsm])
      have hby := byteAt_range HBS.out n
      obtain ⟨y, HY⟩ : ∃ y, Aside0 (byteAt bs n = y) := ⟨_, ⟨rfl⟩⟩
      rw [HY.out] at hby HE
      obtain ⟨hy0, hy1⟩ := hby
      have hq0 : 0 ≤ code % 16777216 := by omega
      have hq1 : code % 16777216 ≤ 16777215 := by omega
      have hq2 : 16777216 ≤ pt * 256 := by omega
      have hq3 : pt * 256 ≤ 4294967296 := by omega
      refine wp_loop_rounds 2 ?_
      rw [rounds_succ]
      go_wp2
      go_region_with (go_at_call 105; (with_reducible refine (iNext_calls r p bs (learnL lik ctx 0) (code) (pt) n w0 _ (dec_drew D2.out) (below_drew B2.out) HBS.out).mono ?_); rintro e W3 ⟨rfl, d3, b3, k3⟩; rw [HY.out]; have D3 := Aside0.mk d3; have K3 := Aside0.mk (KeepBut.trans (show KeepBut W W2.drew r (some p) from K2.out) k3 (.inl rfl)); clear k3; have B3 := Aside0.mk ((below_drew B2.out).trans b3); clear d3 b3; obtain ⟨g0, g1, g2, e1, e2, -, -, -, -⟩ := dec_cells D3.out)
      all_goals
        go_wp2
        rw [rounds_succ]
        go_wp2
        go_ret
        exact ⟨by rw [HBD.out] <;> rfl, by rw [HE.out]; exact dec_width (dec_code D3.out _) _, (B3.out.setCell hrB _).setCell hrB _, (K3.out.set_ _ _).set_ _ _⟩
    · have HE := Aside0.mk (show stepD bs ⟨lik, code, width, n⟩ ctx = ⟨learnL lik ctx 0, code, pt, n⟩ from by
        unfold stepD
        rw [HWD.out, HBD.out, HCD.out, if_neg hsm])
      have hq2 : 16777216 ≤ pt := by omega
      refine wp_loop_rounds 1 ?_
      rw [rounds_succ]
      go_wp2
      go_ret
      exact ⟨by rw [HBD.out] <;> rfl, by rw [HE.out]; exact D2.out, B2.out, K2.out⟩
  · have HBD := Aside0.mk (show bitD ⟨lik, code, width, n⟩ ctx = 1 from by unfold bitD; simp only []; rw [← HPT.out, if_neg hcmp])
    have HCD := Aside0.mk (show codeD ⟨lik, code, width, n⟩ ctx = code - pt from by unfold codeD; simp only []; rw [← HPT.out, if_neg hcmp])
    have HWD := Aside0.mk (show widthD ⟨lik, code, width, n⟩ ctx = width - pt from by unfold widthD; simp only []; rw [← HPT.out, if_neg hcmp])
    have hge : pt ≤ code := by omega
    go_enter Try.func73, Try.ntmps73
    go_wp2
    go_quiet (fail)
    go_wp2_with fail
    go_region
    go_wp2_with fail
    obtain ⟨W1, HW1⟩ : ∃ W1, Aside0 (W1 = ((W.drewN (nq + 1)).setCell ⟨r, 1, none⟩ (.int .i64 (code - pt))).setCell ⟨r, 2, none⟩ (.int .i64 (width - pt))) := ⟨_, ⟨rfl⟩⟩
    have D1 := Aside0.mk (show DecAt w0 W1 r p bs ⟨lik, (code - pt), (width - pt), n⟩ from by rw [HW1.out]; exact dec_width (dec_code (dec_drewN HD0.out _) _) _)
    have B1 := Aside0.mk (show Below w0.heap.size w0 W1 from by rw [HW1.out]; exact ((pw_below_drewN HB.out _).setCell hrB _).setCell hrB _)
    have K1 := Aside0.mk (show KeepBut W W1 r (some p) from by rw [HW1.out]; exact ((show KeepBut W (W.drewN (nq + 1)) r (some p) from KeepBut.refl _ _ _).set_ _ _).set_ _ _)
    rw [← HW1.out]
    clear HW1 hb1 hb2 hf1 hf2 hb0 hcl
    obtain ⟨hb0, hb1, hb2, hf1, hf2, hrl1, hpl1, -, -⟩ := dec_cells D1.out
    go_wp2_with fail
    refine (iLearn_calls p lik ctx 1 _ D1.out.1 HK.out hc).mono ?_
    rintro e w' ⟨rfl, ⟨nl, rfl⟩⟩
    obtain ⟨W2, HW2⟩ : ∃ W2, Aside0 (W2 = (W1.setCell ⟨p, ctx, none⟩ (.int .i64 (learnP (rd lik ctx) 1))).drewN nl) := ⟨_, ⟨rfl⟩⟩
    have D2 := Aside0.mk (show DecAt w0 W2 r p bs ⟨learnL lik ctx 1, (code - pt), (width - pt), n⟩ from by rw [HW2.out]; exact dec_drewN (dec_lik D1.out ctx _) _)
    have B2 := Aside0.mk (show Below w0.heap.size w0 W2 from by rw [HW2.out]; exact pw_below_drewN (B1.out.setCell hpB _) _)
    have K2 := Aside0.mk (show KeepBut W W2 r (some p) from by rw [HW2.out]; exact keep_row K1.out _ _)
    rw [← HW2.out]
    clear HW2 hb0 hb1 hb2 hf1 hf2 D1 B1 K1
    go_wp2
    obtain ⟨hb0, hb1, hb2, hf1, hf2, hrl2, hpl2, -, -⟩ := dec_cells D2.out
    by_cases hsm : (width - pt) < 16777216
    · have HE := Aside0.mk (show stepD bs ⟨lik, code, width, n⟩ ctx = ⟨learnL lik ctx 1, (code - pt) % 16777216 * 256 + byteAt bs n, (width - pt) * 256, n + 1⟩ from by
        unfold stepD
        rw [HWD.out, HBD.out, HCD.out, if_pos hsm])
      have hby := byteAt_range HBS.out n
      obtain ⟨y, HY⟩ : ∃ y, Aside0 (byteAt bs n = y) := ⟨_, ⟨rfl⟩⟩
      rw [HY.out] at hby HE
      obtain ⟨hy0, hy1⟩ := hby
      have hq0 : 0 ≤ (code - pt) % 16777216 := by omega
      have hq1 : (code - pt) % 16777216 ≤ 16777215 := by omega
      have hq2 : 16777216 ≤ (width - pt) * 256 := by omega
      have hq3 : (width - pt) * 256 ≤ 4294967296 := by omega
      refine wp_loop_rounds 2 ?_
      rw [rounds_succ]
      go_wp2
      go_region_with (go_at_call 105; (with_reducible refine (iNext_calls r p bs (learnL lik ctx 1) ((code - pt)) ((width - pt)) n w0 _ (dec_drew D2.out) (below_drew B2.out) HBS.out).mono ?_); rintro e W3 ⟨rfl, d3, b3, k3⟩; rw [HY.out]; have D3 := Aside0.mk d3; have K3 := Aside0.mk (KeepBut.trans (show KeepBut W W2.drew r (some p) from K2.out) k3 (.inl rfl)); clear k3; have B3 := Aside0.mk ((below_drew B2.out).trans b3); clear d3 b3; obtain ⟨g0, g1, g2, e1, e2, -, -, -, -⟩ := dec_cells D3.out)
      all_goals
        go_wp2
        rw [rounds_succ]
        go_wp2
        go_ret
        exact ⟨by rw [HBD.out] <;> rfl, by rw [HE.out]; exact dec_width (dec_code D3.out _) _, (B3.out.setCell hrB _).setCell hrB _, (K3.out.set_ _ _).set_ _ _⟩
    · have HE := Aside0.mk (show stepD bs ⟨lik, code, width, n⟩ ctx = ⟨learnL lik ctx 1, (code - pt), (width - pt), n⟩ from by
        unfold stepD
        rw [HWD.out, HBD.out, HCD.out, if_neg hsm])
      have hq2 : 16777216 ≤ (width - pt) := by omega
      refine wp_loop_rounds 1 ?_
      rw [rounds_succ]
      go_wp2
      go_ret
      exact ⟨by rw [HBD.out] <;> rfl, by rw [HE.out]; exact D2.out, B2.out, K2.out⟩
theorem bitsD_snoc (b : List Int) : ∀ (l : List Int) (s : Dec) (c : Int), bitsD b s (l ++ [c]) = bitsD b s l ++ [bitD (l.foldl (stepD b) s) c]
  | [], s, c => rfl
  | x :: l, s, c => by
    show bitD s x :: bitsD b (stepD b s x) (l ++ [c]) = _
    rw [bitsD_snoc b l]
    rfl
def stK (b l : List Int) (k : Nat) : Dec := (l.take k).foldl (stepD b) (startD b)
def outK (b l : List Int) (k : Nat) : List Int := bitsD b (startD b) (l.take k)
theorem stK_succ (b l : List Int) {k : Nat} (hk : k < l.length) : stK b l (k + 1) = stepD b (stK b l k) l[k] := by
  unfold stK
  rw [List.take_succ_eq_append_getElem hk, List.foldl_append]
  rfl
theorem outK_succ (b l : List Int) {k : Nat} (hk : k < l.length) : outK b l (k + 1) = outK b l k ++ [bitD (stK b l k) l[k]] := by
  unfold outK stK
  rw [List.take_succ_eq_append_getElem hk, bitsD_snoc]
theorem outK_length (b l : List Int) (k : Nat) (hk : k ≤ l.length) : (outK b l k).length = k := by
  unfold outK
  rw [bitsD_length, List.length_take]
  omega
theorem stK_ok {b : List Int} (hb : BytesOk b) (l : List Int) (hl : ∀ x ∈ l, 0 ≤ x ∧ x < 400) : ∀ k : Nat, k ≤ l.length → DecOk (stK b l k) ∧ (stK b l k).at_ ≤ k + 4
  | 0, _ => ⟨startD_ok hb, Nat.le_refl _⟩
  | k + 1, hk => by
    have ih := stK_ok hb l hl k (by omega)
    have hx := hl _ (List.getElem_mem (show k < l.length by omega))
    rw [stK_succ b l (by omega)]
    exact ⟨stepD_ok hb ih.1 hx.1 hx.2, Nat.le_trans (stepD_at b (stK b l k) l[k]).2 (by omega)⟩
def bytesB (l : List Int) : Bool := l.all fun x => decide (0 ≤ x) && decide (x ≤ 255)
theorem bytesB_ok {l : List Int} (h : bytesB l = true) : BytesOk l := fun x hx => by
  have := List.all_eq_true.1 h x hx
  simpa using this
def decodeI (b l : List Int) : List Int := if decide (l.length ≤ 200000) && allR l 0 399 then decL b l else []
theorem within_of {l : List Int} (h : allR l 0 399 = true) : ∀ x ∈ l, 0 ≤ x ∧ x < 400 := fun x hx => by
  have := List.all_eq_true.1 h x hx
  rw [inR_iff] at this
  omega
theorem lit_ints {w W : World} (hb : Below w.heap.size w W) (e r p : Nat) (h : W.heap.size ≠ r ∧ W.heap.size ≠ p) : Kd.R (Kd.int .i64) e (W.alloc (.cells #[] e)) w.heap.size (fun j => j ≠ r ∧ j ≠ p) (.slice (some ⟨W.heap.size, 0, none⟩) 0 0) [] := by
  have := World.ownsRow_lit (base := w.heap.size) (e := e) (size := 1) W #[] 0 hb.size (by decide) (by simp)
  exact ⟨fun k hk => by injection hk with hk; subst hk; exact h, [], this, Reps.none _ _⟩
theorem dec_grown {w0 W W1 : World} {r p : Nat} {bs : List Int} {s : Dec} {B : Nat} {ok : Nat → Prop} {v : Value} {ys : List Int} (h : DecAt w0 W r p bs s) (hR : Kd.R (Kd.int .i64) 3 W B ok v ys) (hg : W.grownBy W1 v.ownBlock) : DecAt w0 W1 r p bs s := by
  obtain ⟨L, hB, A, c, G, h1, h2⟩ := h
  exact ⟨blk_grown L hg (Kd.R_ne hR L (by decide)), hB, A, c, blk_grown G hg (Kd.R_ne hR G (by decide)), h1, h2⟩
theorem out_keep {W W1 : World} {r p e B : Nat} {v : Value} {ys : List Int} (h : Kd.R (Kd.int .i64) e W B (fun j => j ≠ r ∧ j ≠ p) v ys) (hk : KeepBut W W1 r (some p)) : Kd.R (Kd.int .i64) e W1 B (fun j => j ≠ r ∧ j ≠ p) v ys :=
  Kd.R_step h (fun k ho hlt => hk.2 k hlt ho.1 (fun e => ho.2 (Option.some.inj e)))
theorem dec_alloc {w0 W : World} {r p : Nat} {bs : List Int} {s : Dec} (h : DecAt w0 W r p bs s) (o : Obj) : DecAt w0 (W.alloc o) r p bs s := by
  have hb := below_alloc (Below.refl W.heap.size W) o
  obtain ⟨L, hB, A, c, G, h1, h2⟩ := h
  exact ⟨(hb.block p (blk_lt L)).trans L, hB, A, c, (hb.block r (blk_lt G)).trans G, h1, h2⟩
theorem dec_fresh {w0 W : World} {r p : Nat} {bs : List Int} {s : Dec} (h : DecAt w0 W r p bs s) : W.heap.size ≠ r ∧ W.heap.size ≠ p := by
  obtain ⟨L, hB, A, c, G, h1, h2⟩ := h
  have := blk_lt L
  have := blk_lt G
  omega
theorem dec_above {w0 W : World} {r p : Nat} {bs : List Int} {s : Dec} (h : DecAt w0 W r p bs s) : ∀ k, W.heap.size ≤ k → k ≠ r ∧ k ≠ p := by
  obtain ⟨L, hB, A, c, G, h1, h2⟩ := h
  have := blk_lt L
  have := blk_lt G
  omega

/-! ### impl_binReader_num: function 76 (by hand) -/
def clsD (b : List Int) (base : Int) : Nat → Dec → Nat × Dec
  | 0, s => (15, s)
  | d + 1, s => if bitD s (base + 1 + ((14 - d : Nat) : Int)) = 1 then clsD b base d (stepD b s (base + 1 + ((14 - d : Nat) : Int))) else (14 - d, stepD b s (base + 1 + ((14 - d : Nat) : Int)))
def magD (b : List Int) (x : Int) : Nat → Int → Dec → Int × Dec
  | 0, n, s => (n, s)
  | d + 1, n, s => magD b x d (2 * n + bitD s x) (stepD b s x)
def numD (b : List Int) (base : Int) (s : Dec) : Int × Dec :=
  if bitD s base = 1 then (0, stepD b s base)
  else
    let c := clsD b base 14 (stepD b (stepD b s base) (base + 1))
    let m := magD b (base + 18) (c.1 - 1) 1 c.2
    (if bitD (stepD b s base) (base + 1) = 1 then -m.1 else m.1, m.2)
theorem pow2_step (i : Nat) : (2 : Int) ^ (i + 1 + 1) = 2 * 2 ^ (i + 1) := by rw [Int.pow_succ, Int.mul_comm]
theorem pow2_le {i : Nat} (h : i ≤ 14) : (2 : Int) ^ (i + 1) ≤ 32768 := by
  obtain rfl | rfl | rfl | rfl | rfl | rfl | rfl | rfl | rfl | rfl | rfl | rfl | rfl | rfl | rfl : i = 0 ∨ i = 1 ∨ i = 2 ∨ i = 3 ∨ i = 4 ∨ i = 5 ∨ i = 6 ∨ i = 7 ∨ i = 8 ∨ i = 9 ∨ i = 10 ∨ i = 11 ∨ i = 12 ∨ i = 13 ∨ i = 14 := by omega
  all_goals decide
theorem bit01 (s : Dec) (x : Int) : bitD s x = 0 ∨ bitD s x = 1 := by
  unfold bitD
  split
  · exact .inl rfl
  · exact .inr rfl
theorem clsD_ok {b : List Int} (hb : BytesOk b) {base : Int} (h0 : 0 ≤ base) (h1 : base ≤ 380) : ∀ (d : Nat) (s : Dec), d ≤ 14 → DecOk s → DecOk (clsD b base d s).2 ∧ (clsD b base d s).2.at_ ≤ s.at_ + d ∧ 1 ≤ (clsD b base d s).1 ∧ (clsD b base d s).1 ≤ 15
  | 0, s, _, hs => ⟨hs, Nat.le_refl _, by show 1 ≤ 15; omega, Nat.le_refl _⟩
  | d + 1, s, hd, hs => by
    have h2 := stepD_ok hb hs (ctx := base + 1 + ((14 - d : Nat) : Int)) (by omega) (by omega)
    have h3 := (stepD_at b s (base + 1 + ((14 - d : Nat) : Int))).2
    unfold clsD
    split
    · have ih := clsD_ok hb h0 h1 d _ (by omega) h2
      exact ⟨ih.1, by omega, ih.2.2⟩
    · exact ⟨h2, by show (stepD b s (base + 1 + ((14 - d : Nat) : Int))).at_ ≤ _; omega, by show 1 ≤ 14 - d; omega, by show 14 - d ≤ 15; omega⟩
theorem magD_ok {b : List Int} (hb : BytesOk b) {x : Int} (h0 : 0 ≤ x) (h1 : x < 400) : ∀ (d : Nat) (n : Int) (s : Dec), DecOk s → DecOk (magD b x d n s).2 ∧ (magD b x d n s).2.at_ ≤ s.at_ + d
  | 0, n, s, hs => ⟨hs, Nat.le_refl _⟩
  | d + 1, n, s, hs => by
    have h3 := (stepD_at b s x).2
    have ih := magD_ok hb h0 h1 d (2 * n + bitD s x) _ (stepD_ok hb hs h0 h1)
    unfold magD
    exact ⟨ih.1, by omega⟩
theorem numD_ok {b : List Int} (hb : BytesOk b) {base : Int} (h0 : 0 ≤ base) (h1 : base ≤ 380) {s : Dec} (hs : DecOk s) : DecOk (numD b base s).2 ∧ (numD b base s).2.at_ ≤ s.at_ + 40 := by
  have a1 := stepD_ok hb hs h0 (show base < 400 by omega)
  have t1 := (stepD_at b s base).2
  have a2 := stepD_ok hb a1 (show 0 ≤ base + 1 by omega) (show base + 1 < 400 by omega)
  have t2 := (stepD_at b (stepD b s base) (base + 1)).2
  have a3 := clsD_ok hb h0 h1 14 _ (by omega) a2
  have a4 := magD_ok hb (show 0 ≤ base + 18 by omega) (show base + 18 < 400 by omega) ((clsD b base 14 (stepD b (stepD b s base) (base + 1))).1 - 1) 1 _ a3.1
  unfold numD
  split
  · exact ⟨a1, by show (stepD b s base).at_ ≤ _; omega⟩
  · exact ⟨a4.1, by show (magD b (base + 18) ((clsD b base 14 (stepD b (stepD b s base) (base + 1))).1 - 1) 1 (clsD b base 14 (stepD b (stepD b s base) (base + 1))).2).2.at_ ≤ _; omega⟩
theorem iBit_x (r p : Nat) (bs : List Int) (s : Dec) (x : Int) (w0 W : World) (h : DecAt w0 W r p bs s) (hs : DecOk s) (h0 : 0 ≤ x) (h1 : x < 400) (hb : Below w0.heap.size w0 W) (hbs : BytesOk bs) (ha : s.at_ ≤ 1000000000) :
    Calls Try.prog 73 #[.pointer (some ⟨r, 0, none⟩), .int .i64 x] W fun e w' => e = .returned (.int .i64 (bitD s x)) ∧ DecAt w0 w' r p bs (stepD bs s x) ∧ Below w0.heap.size w0 w' ∧ KeepBut W w' r (some p) := by
  obtain ⟨lik, code, width, n⟩ := s
  obtain ⟨c, rfl⟩ := Int.eq_ofNat_of_zero_le h0
  exact iBit_calls r p bs lik code width n c w0 W h hs (by omega) hb hbs
set_option maxHeartbeats 4000000 in
set_option maxRecDepth 100000 in
theorem iNum_calls (r p : Nat) (bs : List Int) (s : Dec) (base : Int) (w0 W : World) (h : DecAt w0 W r p bs s) (hs : DecOk s) (h0 : 0 ≤ base) (h1 : base ≤ 380) (hb : Below w0.heap.size w0 W) (hbs : BytesOk bs) (hat : s.at_ ≤ 900000000) :
    Calls Try.prog 76 #[.pointer (some ⟨r, 0, none⟩), .int .i64 base] W fun e w' => e = .returned (.int .i64 (numD bs base s).1) ∧ DecAt w0 w' r p bs (numD bs base s).2 ∧ Below w0.heap.size w0 w' ∧ KeepBut W w' r (some p) := by
  have D0 := Aside0.mk h
  have B0 := Aside0.mk hb
  have HBS := Aside0.mk hbs
  have S0 := Aside0.mk hs
  have K0 := Aside0.mk (KeepBut.refl W r (some p))
  have T0 := Aside0.mk hat
  clear h hb hbs hs hat
  by_cases hz : bitD s base = 1
  · have HN := Aside0.mk (show numD bs base s = (0, stepD bs s base) from by unfold numD; rw [if_pos hz])
    rw [HN.out]
    go_enter Try.func76, Try.ntmps76
    go_wp2_with (go_at_call 73; (with_reducible refine (iBit_x r p bs s base w0 _ D0.out S0.out h0 (by omega) B0.out HBS.out (Nat.le_trans T0.out (by decide))).mono ?_); rintro e W1 ⟨rfl, d, b, k⟩; rw [hz]; have D1 := Aside0.mk d; have B1 := Aside0.mk b; have K1 := Aside0.mk (KeepBut.trans K0.out k (.inl rfl)); clear d b k)
    go_ret
    exact ⟨rfl, D1.out, B1.out, K1.out⟩
  · have hz0 : bitD s base = 0 := (bit01 s base).resolve_right hz
    clear hz
    obtain ⟨s1, HS1⟩ : ∃ t, Aside0 (t = stepD bs s base) := ⟨_, ⟨rfl⟩⟩
    have S1 := Aside0.mk (show DecOk s1 from by rw [HS1.out]; exact stepD_ok HBS.out S0.out h0 (by omega))
    have T1 := Aside0.mk (show s1.at_ ≤ 900000001 from by rw [HS1.out]; exact Nat.le_trans (stepD_at bs s base).2 (Nat.succ_le_succ T0.out))
    obtain ⟨sg, HSG⟩ : ∃ t, Aside0 (t = bitD s1 (base + 1)) := ⟨_, ⟨rfl⟩⟩
    have hsg : sg = 0 ∨ sg = 1 := by rw [HSG.out]; exact bit01 _ _
    obtain ⟨s2, HS2⟩ : ∃ t, Aside0 (t = stepD bs s1 (base + 1)) := ⟨_, ⟨rfl⟩⟩
    have S2 := Aside0.mk (show DecOk s2 from by rw [HS2.out]; exact stepD_ok HBS.out S1.out (by omega) (by omega))
    have T2 := Aside0.mk (show s2.at_ ≤ 900000002 from by rw [HS2.out]; exact Nat.le_trans (stepD_at bs s1 (base + 1)).2 (Nat.succ_le_succ T1.out))
    have HN := Aside0.mk (show numD bs base s = (if sg = 1 then -(magD bs (base + 18) ((clsD bs base 14 s2).1 - 1) 1 (clsD bs base 14 s2).2).1 else (magD bs (base + 18) ((clsD bs base 14 s2).1 - 1) 1 (clsD bs base 14 s2).2).1, (magD bs (base + 18) ((clsD bs base 14 s2).1 - 1) 1 (clsD bs base 14 s2).2).2) from by unfold numD; rw [hz0, if_neg (by decide), HS2.out, HSG.out, HS1.out])
    go_enter Try.func76, Try.ntmps76
    go_wp2_with (first
      | (go_at_call 73; (with_reducible refine (iBit_x r p bs s base w0 _ D0.out S0.out h0 (by omega) B0.out HBS.out (Nat.le_trans T0.out (by decide))).mono ?_); rintro e W1 ⟨rfl, d, b, k⟩; rw [hz0]; rw [← HS1.out] at d; have D1 := Aside0.mk d; have B1 := Aside0.mk b; have K1 := Aside0.mk (KeepBut.trans K0.out k (.inl rfl)); clear d b k)
      | (go_at_call 73; (with_reducible refine (iBit_x r p bs s1 (base + 1) w0 _ D1.out S1.out (by omega) (by omega) B1.out HBS.out (Nat.le_trans T1.out (by decide))).mono ?_); rintro e W2 ⟨rfl, d, b, k⟩; rw [← HSG.out]; rw [← HS2.out] at d; have D2 := Aside0.mk d; have B2 := Aside0.mk b; have K2 := Aside0.mk (KeepBut.trans K1.out k (.inl rfl)); clear d b k))
    clear hz0 HS1 HS2 HSG S0 S1 T0 T1
    go_loopg [6] 14 (fun kq vc w' => ∃ (d : Nat) (t : Dec), vc = .int .i64 (((15 - d : Nat) : Nat) : Int) ∧ Aside0 (d = kq ∧ d ≤ 14) ∧ Aside0 (DecOk t ∧ t.at_ + d ≤ 900000020) ∧ Aside0 (clsD bs base d t = clsD bs base 14 s2) ∧ Aside0 (DecAt w0 w' r p bs t) ∧ Aside0 (Below w0.heap.size w0 w') ∧ Aside0 (KeepBut W w' r (some p)))
    case atStart => exact ⟨14, s2, rfl, ⟨rfl, Nat.le_refl _⟩, ⟨S2.out, by have := T2.out; omega⟩, ⟨rfl⟩, D2, B2, K2⟩
    case round =>
      clear D2 B2 K2 S2 T2
      obtain ⟨d, t, rfl, HQ, HT, HC, D3, B3, K3⟩ := hrel
      obtain ⟨CN, HCN⟩ : ∃ CN : Nat, Aside0 (CN = 15 - d) := ⟨_, ⟨rfl⟩⟩
      rw [← HCN.out]
      have hc1 : 1 ≤ CN := by have := HCN.out; have := HQ.out.2; omega
      have hc15 : CN ≤ 15 := by have := HCN.out; omega
      have hci1 : 1 ≤ (CN : Int) := by omega
      have hci15 : (CN : Int) ≤ 15 := by omega
      rcases Nat.eq_zero_or_pos d with hd | hd
      · have hcl : ¬ (CN : Int) < 15 := by have := HCN.out; omega
        have HM := Aside0.mk (show clsD bs base 14 s2 = (CN, t) from by rw [← HC.out, HCN.out, hd]; rfl)
        have HT' := Aside0.mk (show DecOk t ∧ t.at_ ≤ 900000020 from ⟨HT.out.1, by have := HT.out.2; omega⟩)
        clear HC HT hd HQ HCN
        go_wp2
        have HNN := Aside0.mk (show numD bs base s = (if sg = 1 then -(magD bs (base + 18) (CN - 1) 1 t).1 else (magD bs (base + 18) (CN - 1) 1 t).1, (magD bs (base + 18) (CN - 1) 1 t).2) from by rw [HN.out, HM.out])
        clear HN HM
        go_loopg [7, 31] (CN - 1) (fun kq vn vi w' => ∃ (i : Nat) (n : Int) (t2 : Dec), vn = .int .i64 n ∧ vi = .int .i64 (i : Int) ∧ Aside0 (i + kq = CN - 1 ∧ 1 ≤ n ∧ n < 2 ^ (i + 1)) ∧ Aside0 (DecOk t2 ∧ t2.at_ ≤ 900000020 + i) ∧ Aside0 (magD bs (base + 18) (CN - 1 - i) n t2 = magD bs (base + 18) (CN - 1) 1 t) ∧ Aside0 (DecAt w0 w' r p bs t2) ∧ Aside0 (Below w0.heap.size w0 w') ∧ Aside0 (KeepBut W w' r (some p)))
        case atStart => exact ⟨0, 1, t, rfl, rfl, ⟨by omega, by decide, by decide⟩, ⟨HT'.out.1, HT'.out.2⟩, ⟨rfl⟩, D3, B3, K3⟩
        case round =>
          clear D3 B3 K3 HT'
          obtain ⟨i, n, t2, rfl, rfl, HQ2, HT2, HM2, D5, B5, K5⟩ := hrel
          by_cases hi : (i : Int) < (CN : Int) - 1
          · have hn1 : 1 ≤ n := HQ2.out.2.1
            have hn2 : n < 32768 := Int.lt_of_lt_of_le HQ2.out.2.2 (pow2_le (by omega))
            obtain ⟨y, HY⟩ : ∃ y, Aside0 (y = bitD t2 (base + 18)) := ⟨_, ⟨rfl⟩⟩
            have hy : y = 0 ∨ y = 1 := by rw [HY.out]; exact bit01 _ _
            have hy0 : 0 ≤ y := by omega
            have hy1 : y ≤ 1 := by omega
            have HM3 := Aside0.mk (show magD bs (base + 18) (CN - 1 - (i + 1)) (2 * n + y) (stepD bs t2 (base + 18)) = magD bs (base + 18) (CN - 1) 1 t from by rw [← HM2.out, HY.out, show CN - 1 - i = (CN - 1 - (i + 1)) + 1 from by omega]; rfl)
            have HS6 := Aside0.mk (show DecOk (stepD bs t2 (base + 18)) from stepD_ok HBS.out HT2.out.1 (by omega) (by omega))
            have HT6 := Aside0.mk (show (stepD bs t2 (base + 18)).at_ ≤ 900000020 + (i + 1) from by have := (stepD_at bs t2 (base + 18)).2; have := HT2.out.2; omega)
            have HP := Aside0.mk (pow2_step i)
            clear hy HM2
            go_wp2_with (go_at_call 73; (with_reducible refine (iBit_x r p bs t2 (base + 18) w0 _ D5.out HT2.out.1 (by omega) (by omega) B5.out HBS.out (by have := HT2.out.2; omega)).mono ?_); rintro e W6 ⟨rfl, d, b, k⟩; rw [← HY.out]; have D6 := Aside0.mk d; have B6 := Aside0.mk b; have K6 := Aside0.mk (KeepBut.trans K5.out k (.inl rfl)); clear d b k)
            go_roundg (CN - 1 - (i + 1))
            case measure => have := HQ2.out.1; omega
            case rel => exact ⟨i + 1, 2 * n + y, _, rfl, by first | rfl | go_num | simp, ⟨by have := HQ2.out.1; omega, by omega, by rw [HP.out]; have := HQ2.out.2.2; omega⟩, ⟨HS6.out, HT6.out⟩, HM3, D6, B6, K6⟩
          · have HEQ := Aside0.mk (show magD bs (base + 18) (CN - 1) 1 t = (n, t2) from by rw [← HM2.out, show CN - 1 - i = 0 from by have := HQ2.out.1; omega]; rfl)
            have HN5 := Aside0.mk (show numD bs base s = (if sg = 1 then -n else n, t2) from by rw [HNN.out, HEQ.out])
            have hn1 : 1 ≤ n := HQ2.out.2.1
            have hn2 : n < 65536 := Int.lt_of_lt_of_le HQ2.out.2.2 (Int.le_trans (pow2_le (by have := HQ2.out.1; omega)) (by decide))
            clear HNN HEQ HM2
            rcases hsg with hsg | hsg
            · subst hsg
              go_wp2
              go_ret
              exact ⟨by rw [HN5.out] <;> rfl, by rw [HN5.out]; exact D5.out, B5.out, K5.out⟩
            · subst hsg
              go_wp2
              go_ret
              exact ⟨by rw [HN5.out] <;> rfl, by rw [HN5.out]; exact D5.out, B5.out, K5.out⟩
      · obtain ⟨e, rfl⟩ : ∃ e, d = e + 1 := ⟨d - 1, by omega⟩
        have hcl : (CN : Int) < 15 := by have := HCN.out; have := HQ.out.2; omega
        have HX := Aside0.mk (show clsD bs base 14 s2 = if bitD t (base + 1 + (CN : Int)) = 1 then clsD bs base e (stepD bs t (base + 1 + (CN : Int))) else (CN, stepD bs t (base + 1 + (CN : Int))) from by rw [← HC.out, show CN = 14 - e from by have := HCN.out; omega]; rfl)
        have HV := Aside0.mk (show (((15 - e : Nat) : Nat) : Int) = (CN : Int) + 1 from by have := HCN.out; have := HQ.out.2; omega)
        have hT := (stepD_at bs t (base + 1 + (CN : Int))).2
        have HS4 := Aside0.mk (show DecOk (stepD bs t (base + 1 + (CN : Int))) from stepD_ok HBS.out HT.out.1 (by omega) (by omega))
        have HT4 := Aside0.mk (show (stepD bs t (base + 1 + (CN : Int))).at_ + e ≤ 900000020 from by have := HT.out.2; omega)
        clear hT hd HC HCN
        by_cases hbit : bitD t (base + 1 + (CN : Int)) = 1
        · have HX1 := Aside0.mk (show clsD bs base e (stepD bs t (base + 1 + (CN : Int))) = clsD bs base 14 s2 from by rw [HX.out, if_pos hbit])
          clear HX
          go_wp2_with (go_at_call 73; (with_reducible refine (iBit_x r p bs t (base + 1 + (CN : Int)) w0 _ D3.out HT.out.1 (by omega) (by omega) B3.out HBS.out (by have := HT.out.2; omega)).mono ?_); rintro e W4 ⟨rfl, d, b, k⟩; rw [hbit]; have D4 := Aside0.mk d; have B4 := Aside0.mk b; have K4 := Aside0.mk (KeepBut.trans K3.out k (.inl rfl)); clear d b k)
          go_roundg e
          case measure => have := HQ.out.1; omega
          case rel => exact ⟨e, _, by rw [HV.out], ⟨rfl, by have := HQ.out.2; omega⟩, ⟨HS4.out, HT4.out⟩, HX1, D4, B4, K4⟩
        · have HM := Aside0.mk (show clsD bs base 14 s2 = (CN, stepD bs t (base + 1 + (CN : Int))) from by rw [HX.out, if_neg hbit])
          have hbit0 := (bit01 t (base + 1 + (CN : Int))).resolve_right hbit
          clear hbit HX HV
          go_wp2_with (go_at_call 73; (with_reducible refine (iBit_x r p bs t (base + 1 + (CN : Int)) w0 _ D3.out HT.out.1 (by omega) (by omega) B3.out HBS.out (by have := HT.out.2; omega)).mono ?_); rintro e W4 ⟨rfl, d, b, k⟩; rw [hbit0]; have D4 := Aside0.mk d; have B4 := Aside0.mk b; have K4 := Aside0.mk (KeepBut.trans K3.out k (.inl rfl)); clear d b k)
          have HT' := Aside0.mk (show DecOk (stepD bs t (base + 1 + (CN : Int))) ∧ (stepD bs t (base + 1 + (CN : Int))).at_ ≤ 900000020 from ⟨HS4.out, by have := HT4.out; omega⟩)
          obtain ⟨tc, HTC⟩ : ∃ tc, Aside0 (tc = stepD bs t (base + 1 + (CN : Int))) := ⟨_, ⟨rfl⟩⟩
          rw [← HTC.out] at HM D4 HT'
          clear HTC HS4 HT4 HT D3 B3 K3 HQ hbit0
          have HNN := Aside0.mk (show numD bs base s = (if sg = 1 then -(magD bs (base + 18) (CN - 1) 1 tc).1 else (magD bs (base + 18) (CN - 1) 1 tc).1, (magD bs (base + 18) (CN - 1) 1 tc).2) from by rw [HN.out, HM.out])
          clear HN HM
          go_loopg [7, 31] (CN - 1) (fun kq vn vi w' => ∃ (i : Nat) (n : Int) (t2 : Dec), vn = .int .i64 n ∧ vi = .int .i64 (i : Int) ∧ Aside0 (i + kq = CN - 1 ∧ 1 ≤ n ∧ n < 2 ^ (i + 1)) ∧ Aside0 (DecOk t2 ∧ t2.at_ ≤ 900000020 + i) ∧ Aside0 (magD bs (base + 18) (CN - 1 - i) n t2 = magD bs (base + 18) (CN - 1) 1 tc) ∧ Aside0 (DecAt w0 w' r p bs t2) ∧ Aside0 (Below w0.heap.size w0 w') ∧ Aside0 (KeepBut W w' r (some p)))
          case atStart => exact ⟨0, 1, tc, rfl, rfl, ⟨by omega, by decide, by decide⟩, ⟨HT'.out.1, HT'.out.2⟩, ⟨rfl⟩, D4, B4, K4⟩
          case round =>
            clear D4 B4 K4 HT'
            obtain ⟨i, n, t2, rfl, rfl, HQ2, HT2, HM2, D5, B5, K5⟩ := hrel
            by_cases hi : (i : Int) < (CN : Int) - 1
            · have hn1 : 1 ≤ n := HQ2.out.2.1
              have hn2 : n < 32768 := Int.lt_of_lt_of_le HQ2.out.2.2 (pow2_le (by omega))
              obtain ⟨y, HY⟩ : ∃ y, Aside0 (y = bitD t2 (base + 18)) := ⟨_, ⟨rfl⟩⟩
              have hy : y = 0 ∨ y = 1 := by rw [HY.out]; exact bit01 _ _
              have hy0 : 0 ≤ y := by omega
              have hy1 : y ≤ 1 := by omega
              have HM3 := Aside0.mk (show magD bs (base + 18) (CN - 1 - (i + 1)) (2 * n + y) (stepD bs t2 (base + 18)) = magD bs (base + 18) (CN - 1) 1 tc from by rw [← HM2.out, HY.out, show CN - 1 - i = (CN - 1 - (i + 1)) + 1 from by omega]; rfl)
              have HS6 := Aside0.mk (show DecOk (stepD bs t2 (base + 18)) from stepD_ok HBS.out HT2.out.1 (by omega) (by omega))
              have HT6 := Aside0.mk (show (stepD bs t2 (base + 18)).at_ ≤ 900000020 + (i + 1) from by have := (stepD_at bs t2 (base + 18)).2; have := HT2.out.2; omega)
              have HP := Aside0.mk (pow2_step i)
              clear hy HM2
              go_wp2_with (go_at_call 73; (with_reducible refine (iBit_x r p bs t2 (base + 18) w0 _ D5.out HT2.out.1 (by omega) (by omega) B5.out HBS.out (by have := HT2.out.2; omega)).mono ?_); rintro e W6 ⟨rfl, d, b, k⟩; rw [← HY.out]; have D6 := Aside0.mk d; have B6 := Aside0.mk b; have K6 := Aside0.mk (KeepBut.trans K5.out k (.inl rfl)); clear d b k)
              go_roundg (CN - 1 - (i + 1))
              case measure => have := HQ2.out.1; omega
              case rel => exact ⟨i + 1, 2 * n + y, _, rfl, by first | rfl | go_num | simp, ⟨by have := HQ2.out.1; omega, by omega, by rw [HP.out]; have := HQ2.out.2.2; omega⟩, ⟨HS6.out, HT6.out⟩, HM3, D6, B6, K6⟩
            · have HEQ := Aside0.mk (show magD bs (base + 18) (CN - 1) 1 tc = (n, t2) from by rw [← HM2.out, show CN - 1 - i = 0 from by have := HQ2.out.1; omega]; rfl)
              have HN5 := Aside0.mk (show numD bs base s = (if sg = 1 then -n else n, t2) from by rw [HNN.out, HEQ.out])
              have hn1 : 1 ≤ n := HQ2.out.2.1
              have hn2 : n < 65536 := Int.lt_of_lt_of_le HQ2.out.2.2 (Int.le_trans (pow2_le (by have := HQ2.out.1; omega)) (by decide))
              clear HNN HEQ HM2
              rcases hsg with hsg | hsg
              · subst hsg
                go_wp2
                go_ret
                exact ⟨by rw [HN5.out] <;> rfl, by rw [HN5.out]; exact D5.out, B5.out, K5.out⟩
              · subst hsg
                go_wp2
                go_ret
                exact ⟨by rw [HN5.out] <;> rfl, by rw [HN5.out]; exact D5.out, B5.out, K5.out⟩

/-! ### impl_ReadNums: function 37 (by hand) -/
def stN (b : List Int) (base : Int) : Nat → Dec
  | 0 => startD b
  | k + 1 => (numD b base (stN b base k)).2
def outN (b : List Int) (base : Int) : Nat → List Int
  | 0 => []
  | k + 1 => outN b base k ++ [(numD b base (stN b base k)).1]
theorem outN_length (b : List Int) (base : Int) : ∀ k : Nat, (outN b base k).length = k
  | 0 => rfl
  | k + 1 => by unfold outN; rw [List.length_append, outN_length b base k]; rfl
theorem stN_ok {b : List Int} (hb : BytesOk b) {base : Int} (h0 : 0 ≤ base) (h1 : base ≤ 380) : ∀ k : Nat, DecOk (stN b base k) ∧ (stN b base k).at_ ≤ 4 + 40 * k
  | 0 => ⟨startD_ok hb, Nat.le_refl _⟩
  | k + 1 => by
    have ih := stN_ok hb h0 h1 k
    have := numD_ok hb h0 h1 ih.1
    exact ⟨this.1, by show (numD b base (stN b base k)).2.at_ ≤ _; omega⟩
def readI (b : List Int) (n base : Int) : List Int := if inR n 0 4096 && inR base 0 380 then outN b base n.toNat else []
def impl_ReadNums.f (l0 : List Int) (a1 a2 : Int) : Option (List Int) := if bytesB l0 = true ∧ l0.length ≤ 4611686018427387904 then some (readI l0 a1 a2) else none
set_option maxHeartbeats 4000000 in
set_option maxRecDepth 100000 in
theorem impl_ReadNums.calls (A0 : Option Addr) (c0 : Nat) (l0 : List Int) (a1 a2 : Int) (r : List Int) (w : World) (hr0 : Kd.C (Kd.int .u8) w A0 l0.length l0) (hc0 : l0.length ≤ c0) (h : impl_ReadNums.f l0 a1 a2 = some r) :
    Calls Try.prog 37 #[.slice A0 l0.length c0, .int .i64 a1, .int .i64 a2] w fun e w' => ∃ v0_ : Value, e = .returned (v0_) ∧ Kd.R (Kd.int .i64) 3 w' w.heap.size (fun _ => True) v0_ r ∧ Below w.heap.size w w' := by
  unfold impl_ReadNums.f at h
  by_cases hl : bytesB l0 = true ∧ l0.length ≤ 4611686018427387904
  · rw [if_pos hl] at h
    obtain rfl := Option.some.inj h
    clear h
    have HBS := Aside0.mk (bytesB_ok hl.1)
    have HR0 := Aside0.mk hr0
    have HC0 := Aside0.mk hc0
    have hd0 : l0.length ≤ 4611686018427387904 := hl.2
    clear hr0 hc0 hl
    by_cases cn : inR a1 0 4096 = true
    · have CN := Aside0.mk cn
      by_cases cb : inR a2 0 380 = true
      · have CB := Aside0.mk (show baseB a2 = true from cb)
        rw [inR_iff] at cn cb
        obtain ⟨N, rfl⟩ := Int.eq_ofNat_of_zero_le cn.1
        have hN : N ≤ 4096 := by omega
        have hb0 : 0 ≤ a2 := cb.1
        have hb1 : a2 ≤ 380 := cb.2
        have HE := Aside0.mk (show readI l0 (N : Int) a2 = outN l0 a2 N from by unfold readI; rw [CN.out, show inR a2 0 380 = true from CB.out]; rfl)
        rw [HE.out]
        clear HE cn cb
        go_enter Try.func37, Try.ntmps37
        go_wp2_with (first
          | (go_at_call 75; (with_reducible refine (boolCall (impl_within.calls (N : Int) 0 4096 _ _ (within_f _ _ _)) CN.out).mono ?_); rintro e w0 ⟨rfl, hb1⟩; have HB0 := Aside0.mk hb1.below; clear hb1)
          | (go_at_call 61; (with_reducible refine (boolCall (impl_isBase.calls a2 _ _ (isBase_f _)) CB.out).mono ?_); rintro e w1 ⟨rfl, hb1⟩; have HB := Aside0.mk (below_step HB0.out hb1.below); clear hb1)
          | (go_at_call 72; (with_reducible refine (iNewReader_calls A0 c0 l0 _ _ (Kd.C_below HR0.out HB.out) HC0.out (Below.refl _ _) HBS.out).mono ?_); rintro e W2 ⟨r, p, rfl, hd, hb2⟩; have HD0 := Aside0.mk hd; have HB2 := Aside0.mk hb2; clear hd hb2))
        obtain ⟨W3, HW3⟩ : ∃ W3, Aside0 (W3 = W2.alloc (.cells #[] 3)) := ⟨_, ⟨rfl⟩⟩
        have HBW := Aside0.mk (show Below w.heap.size w W3 from by rw [HW3.out]; exact below_alloc (below_step HB.out HB2.out) _)
        have HB3 := Aside0.mk (show Below w1.heap.size w1 W3 from by rw [HW3.out]; exact below_alloc HB2.out _)
        have HD3 := Aside0.mk (show DecAt w1 W3 r p l0 (stN l0 a2 0) from by rw [HW3.out]; exact dec_alloc HD0.out _)
        have HO3 := Aside0.mk (show Kd.R (Kd.int .i64) 3 W3 w1.heap.size (fun j => j ≠ r ∧ j ≠ p) (.slice (some ⟨W2.heap.size, 0, none⟩) 0 0) (outN l0 a2 0) from by rw [HW3.out]; exact lit_ints HB2.out _ _ _ (dec_fresh HD0.out))
        rw [← HW3.out]
        clear HW3 HD0 HB2 HB0
        go_loopg [8, 21] N (fun kq v8 v21 w' => ∃ (k : Nat), v21 = .int .i64 (k : Int) ∧ Aside0 (k + kq = N) ∧ Aside0 (DecAt w1 w' r p l0 (stN l0 a2 k)) ∧ Aside0 (Kd.R (Kd.int .i64) 3 w' w1.heap.size (fun j => j ≠ r ∧ j ≠ p) v8 (outN l0 a2 k)) ∧ Aside0 (Below w1.heap.size w1 w') ∧ Aside0 (Below w.heap.size w w'))
        case atStart => exact ⟨0, rfl, ⟨by omega⟩, HD3, HO3, HB3, HBW⟩
        case round =>
          clear HD3 HO3 HB3 HBW
          obtain ⟨k, rfl, HQ, HD, HO, HBB, HBW⟩ := hrel
          by_cases hk : k < N
          · have hki : (k : Int) < (N : Int) := by omega
            have hst := stN_ok HBS.out hb0 hb1 k
            have hkn : k ≤ 4096 := by omega
            have HLN := Aside0.mk (outN_length l0 a2 k)
            have HST := Aside0.mk hst.1
            have HTT := Aside0.mk (show (stN l0 a2 k).at_ ≤ 900000000 from by have := hst.2; omega)
            clear hst
            go_wp2_with (first
              | (go_at_call 76; (with_reducible refine (iNum_calls r p l0 (stN l0 a2 k) a2 w1 _ HD.out HST.out hb0 hb1 HBB.out HBS.out HTT.out).mono ?_); rintro e W4 ⟨rfl, d4, b4, k4⟩; have HO4 := Aside0.mk (out_keep HO.out k4); have HD4 := Aside0.mk d4; have HB4 := Aside0.mk b4; clear d4 b4 k4)
              | ((with_reducible refine gate_builtin (b := .append) (xs := #[.tmp 23, .tmp 27]) rfl ?_); at_builtin; refine Kd.R_append (Kd.int .i64) (w0 := w1) w1.heap.size rfl (.tmp 23) (.tmp 27) 34 3 (.int .i64 0) 8 rfl Try.underlying34 info3 rfl (by decide) (by omega) u8 (outN l0 a2 k) (numD l0 a2 (stN l0 a2 k)).1 [.int .i64 (numD l0 a2 (stN l0 a2 k)).1] (fun j => j ≠ r ∧ j ≠ p) (fun _ => False) rfl rfl ?aP (fun _ hk => hk.elim) ?aF ?aO ?aB ?aS ?aL ?_; (case aP => exact rfl); (case aF => exact dec_above HD4.out); (case aO => exact HO4.out); (case aB => exact HB4.out); (case aS => exact HB4.out.size); (case aL => rw [HLN.out]; omega); intro v1 w5 ho hb hg hat; have HD5 := Aside0.mk (dec_grown HD4.out HO4.out hg); have HO5 := Aside0.mk ho; have HB5 := Aside0.mk hb; clear ho hb hg hat))
            go_roundg (N - (k + 1))
            case measure => have := HQ.out; omega
            case rel => exact ⟨k + 1, by first | rfl | go_num | simp, ⟨by have := HQ.out; omega⟩, HD5, HO5, HB5, ⟨below_step HB.out HB5.out⟩⟩
          · have hki : ¬ (k : Int) < (N : Int) := by omega
            have e := HQ.out
            obtain rfl : k = N := by omega
            clear e
            go_wp2
            go_ret
            exact ⟨_, rfl, Kd.R_lower (Kd.R_mono HO.out (fun _ _ => trivial)) (below_size HB.out), HBW.out⟩
      · have CB := Aside0.mk (show baseB a2 = false from Bool.eq_false_iff.2 cb)
        have HE := Aside0.mk (show readI l0 a1 a2 = [] from by unfold readI; rw [show inR a2 0 380 = false from CB.out, Bool.and_false]; rfl)
        rw [HE.out]
        clear HE cn cb
        go_enter Try.func37, Try.ntmps37
        go_wp2_with (first
          | (go_at_call 75; (with_reducible refine (boolCall (impl_within.calls a1 0 4096 _ _ (within_f _ _ _)) CN.out).mono ?_); rintro e w0 ⟨rfl, hb1⟩; have HB0 := Aside0.mk hb1.below; clear hb1)
          | (go_at_call 61; (with_reducible refine (boolCall (impl_isBase.calls a2 _ _ (isBase_f _)) CB.out).mono ?_); rintro e w1 ⟨rfl, hb1⟩; have HB := Aside0.mk (below_step HB0.out hb1.below); clear hb1))
        go_ret
        exact ⟨_, rfl, Kd.R_nil _ _ _ _ _, HB.out⟩
    · have CN := Aside0.mk (Bool.eq_false_iff.2 cn)
      have HE := Aside0.mk (show readI l0 a1 a2 = [] from by unfold readI; rw [CN.out, Bool.false_and]; rfl)
      rw [HE.out]
      clear HE cn
      go_enter Try.func37, Try.ntmps37
      go_wp2_with (go_at_call 75; (with_reducible refine (boolCall (impl_within.calls a1 0 4096 _ _ (within_f _ _ _)) CN.out).mono ?_); rintro e w0 ⟨rfl, hb1⟩; have HB0 := Aside0.mk hb1.below; clear hb1)
      go_ret
      exact ⟨_, rfl, Kd.R_nil _ _ _ _ _, HB0.out⟩
  · rw [if_neg hl] at h
    cases h
theorem readI_length (b : List Int) (n base : Int) : (readI b n base).length ≤ 4096 := by
  unfold readI
  split
  · rename_i h
    simp only [Bool.and_eq_true, inR_iff] at h
    rw [outN_length]
    omega
  · simp
theorem iRead_f (b : List Int) (n base : Int) (hb : bytesB b = true) (h0 : b.length ≤ 4611686018427387904) : impl_ReadNums.f b n base = some (readI b n base) := by unfold impl_ReadNums.f; rw [if_pos ⟨hb, h0⟩]

/-! ### spec_l01Between: function 58 -/
def spec_l01Between.f (a0 : Int) (a1 : Int) (a2 : Int) : Option (Bool) := if a0 ≥ a1 then (some (decide (a0 ≤ a2))) else (some false)
set_option maxHeartbeats 8000000 in
set_option maxRecDepth 100000 in
theorem spec_l01Between.calls (a0 : Int) (a1 : Int) (a2 : Int) (r : Bool) (w : World) (h : spec_l01Between.f a0 a1 a2 = some r) :
    Calls Try.prog 58 #[.int .i64 a0, .int .i64 a1, .int .i64 a2] w fun e w' => e = .returned (.bool r) ∧ Drawn0 w w' := by
  have H : (if a0 ≥ a1 then (some (decide (a0 ≤ a2))) else (some false)) = some r := h
  clear h
  by_cases c4 : a0 ≥ a1
  · rw [if_pos c4] at H
    have c4b0 : decide (a1 ≤ a0) = true := decide_eq_true c4
    clear c4
    obtain rfl := Option.some.inj H
    go_enter Try.func58, Try.ntmps58
    go_wp2
    go_ret
    exact ⟨by first | rfl | (simp; done) | (simp [*]; done), by repeat (first | exact Drawn0.refl _ | apply Drawn0.step)⟩
  · rw [if_neg c4] at H
    have c4b0 : decide (a1 ≤ a0) = false := decide_eq_false c4
    clear c4
    obtain rfl := Option.some.inj H
    go_enter Try.func58, Try.ntmps58
    go_wp2
    go_ret
    exact ⟨by first | rfl | (simp; done) | (simp [*]; done), by repeat (first | exact Drawn0.refl _ | apply Drawn0.step)⟩

theorem between_f (a b c : Int) : spec_l01Between.f a b c = some (inR a b c) := inR_ite a b c

end Go.Proofs.Ytdeheflbigggbaa.CR
