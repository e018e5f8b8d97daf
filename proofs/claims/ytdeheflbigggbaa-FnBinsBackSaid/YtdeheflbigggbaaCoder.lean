/-
  Plain words of the bit coder: what the writer of bits lays, what the reader of bits reads; read back is what was written.
-/
import Derived.Test.YtdeheflbigggbaaBase
namespace Go.Proofs.Ytdeheflbigggbaa.B
open Go.RowKit Go.Proofs.YtdeheflbigggbaaW.PrintWords

/-- How likely a nought is, behind a bit. -/
def learnP (p bit : Int) : Int := if bit = 0 then p + (4096 - p) / 32 else p - p / 32
theorem learnP_range {p bit : Int} (h0 : 31 ≤ p) (h1 : p ≤ 4065) : 31 ≤ learnP p bit ∧ learnP p bit ≤ 4065 := by
  unfold learnP
  split <;> omega
def learnL (l : List Int) (ctx bit : Int) : List Int := l.set ctx.toNat (learnP (rd l ctx) bit)
def LikOk (l : List Int) : Prop := l.length = 400 ∧ ∀ x ∈ l, 31 ≤ x ∧ x ≤ 4065
theorem lik_rd {l : List Int} (h : LikOk l) {c : Int} (h0 : 0 ≤ c) (h1 : c < 400) : 31 ≤ rd l c ∧ rd l c ≤ 4065 := by
  obtain ⟨j, rfl⟩ := Int.eq_ofNat_of_zero_le h0
  rw [rd_nat (by rw [h.1]; omega)]
  exact h.2 _ (List.getElem_mem _)
theorem lik_learn {l : List Int} (h : LikOk l) {c : Int} (bit : Int) (h0 : 0 ≤ c) (h1 : c < 400) : LikOk (learnL l c bit) := by
  refine ⟨by simp [learnL, h.1], fun x hx => ?_⟩
  rcases List.mem_or_eq_of_mem_set hx with hx | rfl
  · exact h.2 x hx
  · have := lik_rd h h0 h1
    exact learnP_range this.1 this.2
def likL : List Int := List.replicate 400 2048
theorem likL_ok : LikOk likL := ⟨List.length_replicate, fun x hx => by rw [List.eq_of_mem_replicate hx]; omega⟩

def carryR : List Int → List Int
  | [] => []
  | x :: xs => if x = 255 then 0 :: carryR xs else (x + 1) :: xs
/-- One more is carried into bytes. -/
def carryL (l : List Int) : List Int := (carryR l.reverse).reverse
def layL (l : List Int) (n : Int) : List Int := (if 256 ≤ n then carryL l else l) ++ [n % 256]
def valR : List Int → Int
  | [] => 0
  | x :: xs => x + 256 * valR xs
/-- The number that bytes are, the highest first. -/
def val (l : List Int) : Int := valR l.reverse
def BytesOk (l : List Int) : Prop := ∀ x ∈ l, 0 ≤ x ∧ x ≤ 255
theorem bytes_rev {l : List Int} (h : BytesOk l) : BytesOk l.reverse := fun x hx => h x (List.mem_reverse.1 hx)
theorem pow_step (n : Nat) : (256 : Int) ^ (n + 1) = 256 * 256 ^ n := by rw [Int.pow_succ, Int.mul_comm]
theorem pow_pos' (n : Nat) : (0 : Int) < 256 ^ n := Int.pow_pos (by omega)
theorem valR_bound : ∀ {l : List Int}, BytesOk l → 0 ≤ valR l ∧ valR l < 256 ^ l.length
  | [], _ => by simp [valR]
  | x :: xs, h => by
    have h1 := h x (by simp)
    have h2 := valR_bound (l := xs) (fun y hy => h y (by simp [hy]))
    rw [List.length_cons, pow_step]
    unfold valR
    omega
theorem carryR_ok : ∀ {l : List Int}, BytesOk l → BytesOk (carryR l) ∧ (carryR l).length = l.length
  | [], h => ⟨h, rfl⟩
  | x :: xs, h => by
    have h1 := h x (by simp)
    have h2 := carryR_ok (l := xs) (fun y hy => h y (by simp [hy]))
    unfold carryR
    split
    · refine ⟨fun y hy => ?_, by simp [h2.2]⟩
      rcases List.mem_cons.1 hy with rfl | hy
      · omega
      · exact h2.1 y hy
    · refine ⟨fun y hy => ?_, by simp⟩
      rcases List.mem_cons.1 hy with rfl | hy
      · omega
      · exact h y (by simp [hy])
theorem carryR_val : ∀ {l : List Int}, BytesOk l → valR l + 1 < 256 ^ l.length → valR (carryR l) = valR l + 1
  | [], _, h => by simp [valR] at h
  | x :: xs, h, hv => by
    have h1 := h x (by simp)
    have ho : BytesOk xs := fun y hy => h y (by simp [hy])
    rw [List.length_cons, pow_step] at hv
    unfold valR at hv
    unfold carryR
    split
    · rename_i e
      have := carryR_val (l := xs) ho (by omega)
      show (0 : Int) + 256 * valR (carryR xs) = x + 256 * valR xs + 1
      omega
    · show x + 1 + 256 * valR xs = x + 256 * valR xs + 1
      omega
theorem carryL_ok {l : List Int} (h : BytesOk l) : BytesOk (carryL l) ∧ (carryL l).length = l.length := by
  have := carryR_ok (bytes_rev h)
  exact ⟨bytes_rev this.1, by simp [carryL, this.2]⟩
theorem carryL_val {l : List Int} (h : BytesOk l) (hv : val l + 1 < 256 ^ l.length) : val (carryL l) = val l + 1 := by
  unfold val carryL
  rw [List.reverse_reverse]
  exact carryR_val (bytes_rev h) (by rw [List.length_reverse]; exact hv)
theorem val_snoc (l : List Int) (x : Int) : val (l ++ [x]) = 256 * val l + x := by
  simp only [val, List.reverse_append, List.reverse_cons, List.reverse_nil, List.nil_append, List.singleton_append, valR]
  omega
theorem val_bound {l : List Int} (h : BytesOk l) : 0 ≤ val l ∧ val l < 256 ^ l.length := by
  have := valR_bound (bytes_rev h)
  rwa [List.length_reverse] at this
theorem layL_length (l : List Int) (n : Int) : (layL l n).length = l.length + 1 := by
  unfold layL
  split
  · have : (carryL l).length = l.length := by
      unfold carryL
      rw [List.length_reverse]
      have e : ∀ m : List Int, (carryR m).length = m.length := by
        intro m
        induction m with
        | nil => rfl
        | cons x xs ih => unfold carryR; split <;> simp [ih]
      rw [e, List.length_reverse]
    simp [this]
  · simp
theorem layL_ok {l : List Int} (h : BytesOk l) (n : Int) : BytesOk (layL l n) := by
  intro x hx
  unfold layL at hx
  rcases List.mem_append.1 hx with hx | hx
  · split at hx
    · exact (carryL_ok h).1 x hx
    · exact h x hx
  · simp at hx
    omega
theorem layL_val {l : List Int} (h : BytesOk l) {n : Int} (h0 : 0 ≤ n) (h1 : n < 512) (hv : 256 ≤ n → val l + 1 < 256 ^ l.length) : val (layL l n) = 256 * val l + n := by
  unfold layL
  rw [val_snoc]
  split
  · rename_i hn
    rw [carryL_val h (hv hn)]
    omega
  · omega

theorem carryR_full : ∀ (k : Nat) (r : List Int), carryR (List.replicate k 255 ++ r) = List.replicate k 0 ++ carryR r
  | 0, _ => rfl
  | k + 1, r => by
    rw [List.replicate_succ, List.cons_append, carryR, if_pos rfl, carryR_full k r, List.replicate_succ, List.cons_append]
theorem carry_full (k : Nat) : carryL (List.replicate k 255) = List.replicate k 0 := by
  unfold carryL
  rw [List.reverse_replicate, ← List.append_nil (List.replicate k 255), carryR_full]
  simp [carryR]
theorem carry_at (a : List Int) (x : Int) (hx : x ≠ 255) (k : Nat) : carryL (a ++ x :: List.replicate k 255) = a ++ (x + 1) :: List.replicate k 0 := by
  unfold carryL
  rw [List.reverse_append, List.reverse_cons, List.reverse_replicate, List.append_assoc, List.singleton_append, carryR_full, carryR, if_neg hx]
  simp
/-- Where a carry has come: behind j all were 255. -/
def Full (l : List Int) (j : Nat) : Prop := l = l.take j ++ List.replicate (l.length - j) 255
def zeroed (l : List Int) (j : Nat) : List Int := l.take j ++ List.replicate (l.length - j) 0
theorem full_all (l : List Int) : Full l l.length ∧ zeroed l l.length = l := by simp [Full, zeroed]
theorem full_none {l : List Int} (h : Full l 0) : carryL l = zeroed l 0 := by
  unfold Full at h
  unfold zeroed
  rw [List.take_zero, List.nil_append] at h ⊢
  rw [h]
  simp [carry_full]
theorem zeroed_length {l : List Int} {j : Nat} (hj : j ≤ l.length) : (zeroed l j).length = l.length := by
  simp [zeroed]
  omega
theorem zeroed_rd {l : List Int} {j : Nat} (hj : j + 1 ≤ l.length) : rd (zeroed l (j + 1)) (j : Int) = rd l (j : Int) := by
  rw [rd_nat (by rw [zeroed_length hj]; omega), rd_nat (by omega)]
  unfold zeroed
  rw [List.getElem_append_left (by simp; omega)]
  simp
theorem full_next {l : List Int} {j : Nat} (hj : j + 1 ≤ l.length) (h : Full l (j + 1)) (hx : rd l (j : Int) = 255) : Full l j ∧ (zeroed l (j + 1)).set j 0 = zeroed l j := by
  rw [rd_nat (by omega)] at hx
  have ht : l.take (j + 1) = l.take j ++ [255] := by rw [List.take_succ_eq_append_getElem (by omega), hx]
  have e : l.length - j = (l.length - (j + 1)) + 1 := by omega
  constructor
  · unfold Full at h ⊢
    rw [e, List.replicate_succ]
    rw [ht, List.append_assoc] at h
    exact h
  · unfold zeroed
    rw [ht, List.append_assoc, List.set_append_right _ _ (by simp; omega), e, List.replicate_succ]
    simp
    rw [Nat.min_eq_left (by omega), Nat.sub_self]
    rfl
theorem full_stop {l : List Int} {j : Nat} (hj : j + 1 ≤ l.length) (h : Full l (j + 1)) (hx : rd l (j : Int) ≠ 255) : (zeroed l (j + 1)).set j (rd l (j : Int) + 1) = carryL l := by
  rw [rd_nat (by omega)] at hx ⊢
  have ht : l.take (j + 1) = l.take j ++ [l[j]] := List.take_succ_eq_append_getElem (by omega)
  have hl : l = l.take j ++ l[j] :: List.replicate (l.length - (j + 1)) 255 := by
    unfold Full at h
    rw [ht, List.append_assoc] at h
    exact h
  have hc : carryL l = l.take j ++ (l[j] + 1) :: List.replicate (l.length - (j + 1)) 0 := by
    have := carry_at (l.take j) l[j] hx (l.length - (j + 1))
    rw [← hl] at this
    exact this
  rw [hc]
  unfold zeroed
  rw [ht, List.append_assoc, List.set_append_right _ _ (by simp; omega)]
  simp
  rw [Nat.min_eq_left (by omega), Nat.sub_self]
  rfl

/-- The writer of bits. -/
structure Enc where
  lik : List Int
  low : Int
  width : Int
  out : List Int
def partE (lik : List Int) (width ctx : Int) : Int := width / 4096 * rd lik ctx
def lowE (s : Enc) (ctx bit : Int) : Int := if bit = 0 then s.low else s.low + partE s.lik s.width ctx
def widthE (s : Enc) (ctx bit : Int) : Int := if bit = 0 then partE s.lik s.width ctx else s.width - partE s.lik s.width ctx
def putE (s : Enc) (ctx bit : Int) : Enc :=
  if widthE s ctx bit < 16777216 then ⟨learnL s.lik ctx bit, lowE s ctx bit % 16777216 * 256, widthE s ctx bit * 256, layL s.out (lowE s ctx bit / 16777216)⟩
  else ⟨learnL s.lik ctx bit, lowE s ctx bit, widthE s ctx bit, s.out⟩
def startE : Enc := ⟨likL, 0, 4294967295, []⟩
def endE (s : Enc) : List Int := layL (layL (layL (layL s.out (s.low / 16777216)) (s.low / 65536 % 256)) (s.low / 256 % 256)) (s.low % 256)
/-- The number that has been told so far. -/
def toldE (s : Enc) : Int := 4294967296 * val s.out + s.low
structure EncOk (s : Enc) : Prop where
  lik : LikOk s.lik
  low0 : 0 ≤ s.low
  sum : s.low + s.width ≤ 8589934592
  w0 : 16777216 ≤ s.width
  w1 : s.width ≤ 4294967295
  out : BytesOk s.out
  room : toldE s + s.width < 256 ^ (s.out.length + 4)
theorem partE_range {lik : List Int} {width ctx : Int} (hl : LikOk lik) (h0 : 16777216 ≤ width) (hc0 : 0 ≤ ctx) (hc1 : ctx < 400) : 126976 ≤ partE lik width ctx ∧ partE lik width ctx + 126976 ≤ width := by
  have hr := lik_rd hl hc0 hc1
  unfold partE
  obtain ⟨q, hq⟩ : ∃ q, q = width / 4096 := ⟨_, rfl⟩
  rw [← hq]
  have h2 : 4096 ≤ q := by omega
  have h3 : q * 4096 ≤ width := by omega
  have a : q * 31 ≤ q * rd lik ctx := Int.mul_le_mul_of_nonneg_left hr.1 (by omega)
  have b : q * rd lik ctx ≤ q * 4065 := Int.mul_le_mul_of_nonneg_left hr.2 (by omega)
  omega
theorem start_ok : EncOk startE := ⟨likL_ok, by decide, by decide, by decide, by decide, fun x hx => by simp [startE] at hx, by simp [startE, toldE, val, valR]⟩
theorem widthE_range {s : Enc} (h : EncOk s) {ctx bit : Int} (hc0 : 0 ≤ ctx) (hc1 : ctx < 400) : 126976 ≤ widthE s ctx bit ∧ widthE s ctx bit ≤ s.width ∧ 0 ≤ lowE s ctx bit ∧ lowE s ctx bit + widthE s ctx bit ≤ s.low + s.width ∧ s.low ≤ lowE s ctx bit := by
  have hp := partE_range h.lik h.w0 hc0 hc1
  have := h.low0
  unfold widthE lowE
  split <;> omega
theorem pow4 (n : Nat) : (256 : Int) ^ (n + 4) = 4294967296 * 256 ^ n := by
  rw [show n + 4 = n + 1 + 1 + 1 + 1 from rfl, pow_step, pow_step, pow_step, pow_step]
  omega
/-- What a lay makes of the number that was told. -/
theorem lay_told {out : List Int} {low : Int} (ho : BytesOk out) (h0 : 0 ≤ low) (h1 : low < 8589934592) (hr : 4294967296 * val out + low < 256 ^ (out.length + 4)) :
    val (layL out (low / 16777216)) = 256 * val out + low / 16777216 := by
  refine layL_val ho (by omega) (by omega) (fun hn => ?_)
  rw [pow4] at hr
  omega
theorem put_ok {s : Enc} (h : EncOk s) {ctx : Int} (bit : Int) (hc0 : 0 ≤ ctx) (hc1 : ctx < 400) : EncOk (putE s ctx bit) := by
  obtain ⟨a1, a2, a3, a4, a5⟩ := widthE_range h (bit := bit) hc0 hc1
  have b1 := h.sum
  have b2 := h.w1
  have b3 := h.room
  have hb : 4294967296 * val s.out + lowE s ctx bit < 256 ^ (s.out.length + 4) := by unfold toldE at b3; omega
  unfold putE
  split
  · rename_i hw
    have hv := lay_told (low := lowE s ctx bit) h.out a3 (by omega) hb
    refine ⟨lik_learn h.lik bit hc0 hc1, ?_, ?_, ?_, ?_, layL_ok h.out _, ?_⟩
    · show 0 ≤ lowE s ctx bit % 16777216 * 256
      omega
    · show lowE s ctx bit % 16777216 * 256 + widthE s ctx bit * 256 ≤ 8589934592
      omega
    · show 16777216 ≤ widthE s ctx bit * 256
      omega
    · show widthE s ctx bit * 256 ≤ 4294967295
      omega
    · show 4294967296 * val (layL s.out (lowE s ctx bit / 16777216)) + lowE s ctx bit % 16777216 * 256 + widthE s ctx bit * 256 < 256 ^ ((layL s.out (lowE s ctx bit / 16777216)).length + 4)
      rw [hv, layL_length, show s.out.length + 1 + 4 = s.out.length + 4 + 1 from by omega, pow_step]
      unfold toldE at b3
      omega
  · rename_i hw
    refine ⟨lik_learn h.lik bit hc0 hc1, a3, ?_, ?_, ?_, h.out, ?_⟩
    · show lowE s ctx bit + widthE s ctx bit ≤ 8589934592
      omega
    · show 16777216 ≤ widthE s ctx bit
      omega
    · show widthE s ctx bit ≤ 4294967295
      omega
    · show 4294967296 * val s.out + lowE s ctx bit + widthE s ctx bit < 256 ^ (s.out.length + 4)
      unfold toldE at b3
      omega
theorem end_val {s : Enc} (h : EncOk s) : val (endE s) = toldE s ∧ (endE s).length = s.out.length + 4 ∧ BytesOk (endE s) := by
  have b1 := h.sum
  have b2 := h.w0
  have b3 := h.room
  have b4 := h.low0
  unfold toldE at b3 ⊢
  have hv := lay_told (low := s.low) h.out b4 (by omega) (by omega)
  have k1 := layL_ok h.out (s.low / 16777216)
  have k2 := layL_ok k1 (s.low / 65536 % 256)
  have k3 := layL_ok k2 (s.low / 256 % 256)
  have v2 := layL_val (n := s.low / 65536 % 256) k1 (by omega) (by omega) (fun hn => by omega)
  have v3 := layL_val (n := s.low / 256 % 256) k2 (by omega) (by omega) (fun hn => by omega)
  have v4 := layL_val (n := s.low % 256) k3 (by omega) (by omega) (fun hn => by omega)
  refine ⟨?_, by simp only [endE, layL_length], layL_ok k3 _⟩
  unfold endE
  rw [v4, v3, v2, hv]
  omega
def putsE (s : Enc) : List (Int × Int) → Enc
  | [] => s
  | x :: xs => putsE (putE s x.1 x.2) xs
def BinsOk (l : List (Int × Int)) : Prop := ∀ x ∈ l, (0 ≤ x.1 ∧ x.1 < 400) ∧ (x.2 = 0 ∨ x.2 = 1)
theorem puts_ok : ∀ (l : List (Int × Int)) {s : Enc}, EncOk s → BinsOk l → EncOk (putsE s l)
  | [], _, h, _ => h
  | x :: xs, s, h, hl => puts_ok xs (put_ok h x.2 (hl x (by simp)).1.1 (hl x (by simp)).1.2) (fun y hy => hl y (by simp [hy]))
theorem puts_snoc : ∀ (l : List (Int × Int)) (s : Enc) (x : Int × Int), putsE s (l ++ [x]) = putE (putsE s l) x.1 x.2
  | [], _, _ => rfl
  | y :: ys, s, x => puts_snoc ys (putE s y.1 y.2) x
def encL (l : List (Int × Int)) : List Int := endE (putsE startE l)
theorem put_length (s : Enc) (ctx bit : Int) : s.out.length ≤ (putE s ctx bit).out.length ∧ (putE s ctx bit).out.length ≤ s.out.length + 1 := by
  unfold putE
  split
  · show s.out.length ≤ (layL s.out _).length ∧ (layL s.out _).length ≤ _
    rw [layL_length]
    omega
  · exact ⟨Nat.le_refl _, Nat.le_succ _⟩
theorem puts_length : ∀ (l : List (Int × Int)) (s : Enc), (putsE s l).out.length ≤ s.out.length + l.length
  | [], s => by simp [putsE]
  | x :: xs, s => by
    have h1 := puts_length xs (putE s x.1 x.2)
    have h2 := put_length s x.1 x.2
    rw [List.length_cons]
    show (putsE (putE s x.1 x.2) xs).out.length ≤ _
    omega
theorem encL_length (l : List (Int × Int)) : (encL l).length ≤ l.length + 4 := by
  have := puts_length l startE
  simp only [encL, endE, layL_length]
  simp only [startE, List.length_nil] at this
  simp only [startE]
  omega

/-- The reader of bits: how likely, the code, the width, how many bytes were read. -/
structure Dec where
  lik : List Int
  code : Int
  width : Int
  at_ : Nat
def byteAt (b : List Int) (n : Nat) : Int := if n < b.length then rd b n else 0
def bitD (s : Dec) (ctx : Int) : Int := if s.code < partE s.lik s.width ctx then 0 else 1
def codeD (s : Dec) (ctx : Int) : Int := if s.code < partE s.lik s.width ctx then s.code else s.code - partE s.lik s.width ctx
def widthD (s : Dec) (ctx : Int) : Int := if s.code < partE s.lik s.width ctx then partE s.lik s.width ctx else s.width - partE s.lik s.width ctx
def stepD (b : List Int) (s : Dec) (ctx : Int) : Dec :=
  if widthD s ctx < 16777216 then ⟨learnL s.lik ctx (bitD s ctx), codeD s ctx % 16777216 * 256 + byteAt b s.at_, widthD s ctx * 256, s.at_ + 1⟩
  else ⟨learnL s.lik ctx (bitD s ctx), codeD s ctx, widthD s ctx, s.at_⟩
def startD (b : List Int) : Dec := ⟨likL, ((byteAt b 0 * 256 + byteAt b 1) * 256 + byteAt b 2) * 256 + byteAt b 3, 4294967295, 4⟩
structure DecOk (s : Dec) : Prop where
  lik : LikOk s.lik
  c0 : 0 ≤ s.code
  c1 : s.code ≤ 4294967295
  w0 : 16777216 ≤ s.width
  w1 : s.width ≤ 4294967295
theorem byteAt_range {b : List Int} (h : BytesOk b) (n : Nat) : 0 ≤ byteAt b n ∧ byteAt b n ≤ 255 := by
  unfold byteAt
  split
  · rename_i hn
    rw [rd_nat hn]
    exact h _ (List.getElem_mem _)
  · omega
theorem widthD_range {s : Dec} (h : DecOk s) {ctx : Int} (hc0 : 0 ≤ ctx) (hc1 : ctx < 400) : 126976 ≤ widthD s ctx ∧ widthD s ctx ≤ s.width ∧ 0 ≤ codeD s ctx ∧ codeD s ctx ≤ s.code := by
  have hp := partE_range h.lik h.w0 hc0 hc1
  have := h.c0
  unfold widthD codeD
  split <;> omega
theorem startD_ok {b : List Int} (h : BytesOk b) : DecOk (startD b) := by
  have h0 := byteAt_range h 0
  have h1 := byteAt_range h 1
  have h2 := byteAt_range h 2
  have h3 := byteAt_range h 3
  refine ⟨likL_ok, ?_, ?_, ?_, ?_⟩ <;> simp only [startD] <;> omega
theorem stepD_ok {b : List Int} (hb : BytesOk b) {s : Dec} (h : DecOk s) {ctx : Int} (hc0 : 0 ≤ ctx) (hc1 : ctx < 400) : DecOk (stepD b s ctx) := by
  obtain ⟨a1, a2, a3, a4⟩ := widthD_range h hc0 hc1
  have b1 := h.c1
  have b2 := h.w1
  have b3 := byteAt_range hb s.at_
  unfold stepD
  split
  · refine ⟨lik_learn h.lik _ hc0 hc1, ?_, ?_, ?_, ?_⟩ <;> simp only [] <;> omega
  · refine ⟨lik_learn h.lik _ hc0 hc1, ?_, ?_, ?_, ?_⟩ <;> simp only [] <;> omega
theorem stepD_at (b : List Int) (s : Dec) (ctx : Int) : s.at_ ≤ (stepD b s ctx).at_ ∧ (stepD b s ctx).at_ ≤ s.at_ + 1 := by
  unfold stepD
  split <;> simp
def bitsD (b : List Int) (s : Dec) : List Int → List Int
  | [] => []
  | c :: cs => bitD s c :: bitsD b (stepD b s c) cs
def decL (b : List Int) (ctxs : List Int) : List Int := bitsD b (startD b) ctxs
theorem bitsD_length (b : List Int) : ∀ (l : List Int) (s : Dec), (bitsD b s l).length = l.length
  | [], _ => rfl
  | _ :: cs, s => by simp [bitsD, bitsD_length b cs]

/-- The number that the first bytes are; behind the end there are noughts. -/
def numAt (b : List Int) : Nat → Int
  | 0 => 0
  | n + 1 => 256 * numAt b n + byteAt b n
theorem numAt_take {b l e : List Int} (h : b = l ++ e) : ∀ n : Nat, n ≤ l.length → numAt b n = val (l.take n)
  | 0, _ => by simp [numAt, val, valR]
  | n + 1, hn => by
    have hl : n < l.length := by omega
    show 256 * numAt b n + byteAt b n = _
    rw [numAt_take h n (by omega), List.take_succ_eq_append_getElem hl, val_snoc]
    unfold byteAt
    rw [if_pos (by rw [h, List.length_append]; omega), rd_nat (by rw [h, List.length_append]; omega)]
    subst h
    rw [List.getElem_append_left hl]
theorem numAt_val (l : List Int) {b e : List Int} (h : b = l ++ e) : numAt b l.length = val l := by
  rw [numAt_take h _ (Nat.le_refl _), List.take_length]
/-- A reader stands where a writer stood. -/
structure Along (b : List Int) (s : Enc) (d : Dec) : Prop where
  lik : d.lik = s.lik
  width : d.width = s.width
  code : d.code = numAt b (s.out.length + 4) - toldE s
  at_ : d.at_ = s.out.length + 4
def Inside (b : List Int) (s : Enc) : Prop := toldE s ≤ numAt b (s.out.length + 4) ∧ numAt b (s.out.length + 4) < toldE s + s.width
theorem put_told {s : Enc} (h : EncOk s) {ctx bit : Int} (hc0 : 0 ≤ ctx) (hc1 : ctx < 400) (hw : widthE s ctx bit < 16777216) :
    toldE (putE s ctx bit) = 256 * (4294967296 * val s.out + lowE s ctx bit) ∧ (putE s ctx bit).width = 256 * widthE s ctx bit ∧ (putE s ctx bit).out.length = s.out.length + 1 := by
  obtain ⟨a1, a2, a3, a4, a5⟩ := widthE_range h (bit := bit) hc0 hc1
  have b1 := h.sum
  have b3 := h.room
  have hv := lay_told (low := lowE s ctx bit) h.out a3 (by omega) (by unfold toldE at b3; omega)
  unfold putE
  rw [if_pos hw]
  refine ⟨?_, Int.mul_comm _ _, layL_length _ _⟩
  show 4294967296 * val (layL s.out (lowE s ctx bit / 16777216)) + lowE s ctx bit % 16777216 * 256 = _
  rw [hv]
  omega
theorem put_told2 {s : Enc} {ctx bit : Int} (hw : ¬ widthE s ctx bit < 16777216) :
    toldE (putE s ctx bit) = 4294967296 * val s.out + lowE s ctx bit ∧ (putE s ctx bit).width = widthE s ctx bit ∧ (putE s ctx bit).out.length = s.out.length := by
  unfold putE
  rw [if_neg hw]
  exact ⟨rfl, rfl, rfl⟩
/-- Where the next one's span is, this one's part is. -/
theorem inside_part {b : List Int} (hb : BytesOk b) {s : Enc} (h : EncOk s) {ctx bit : Int} (hc0 : 0 ≤ ctx) (hc1 : ctx < 400) (hi : Inside b (putE s ctx bit)) :
    4294967296 * val s.out + lowE s ctx bit ≤ numAt b (s.out.length + 4) ∧ numAt b (s.out.length + 4) < 4294967296 * val s.out + lowE s ctx bit + widthE s ctx bit := by
  have hy := byteAt_range hb (s.out.length + 4)
  by_cases hw : widthE s ctx bit < 16777216
  · obtain ⟨e1, e2, e3⟩ := put_told h hc0 hc1 hw
    unfold Inside at hi
    rw [e1, e2, e3, show s.out.length + 1 + 4 = (s.out.length + 4) + 1 from by omega] at hi
    have e4 : numAt b ((s.out.length + 4) + 1) = 256 * numAt b (s.out.length + 4) + byteAt b (s.out.length + 4) := rfl
    rw [e4] at hi
    omega
  · obtain ⟨e1, e2, e3⟩ := put_told2 (s := s) hw
    unfold Inside at hi
    rw [e1, e2, e3] at hi
    exact hi
theorem inside_back {b : List Int} (hb : BytesOk b) {s : Enc} (h : EncOk s) {ctx bit : Int} (hc0 : 0 ≤ ctx) (hc1 : ctx < 400) (hi : Inside b (putE s ctx bit)) : Inside b s := by
  have := inside_part hb h hc0 hc1 hi
  obtain ⟨a1, a2, a3, a4, a5⟩ := widthE_range h (bit := bit) hc0 hc1
  unfold Inside toldE
  omega
theorem inside_all {b : List Int} (hb : BytesOk b) : ∀ (l : List (Int × Int)) {s : Enc}, EncOk s → BinsOk l → Inside b (putsE s l) → Inside b s
  | [], _, _, _, hi => hi
  | x :: xs, s, h, hl, hi => inside_back hb h (hl x (by simp)).1.1 (hl x (by simp)).1.2 (inside_all hb xs (put_ok h x.2 (hl x (by simp)).1.1 (hl x (by simp)).1.2) (fun y hy => hl y (by simp [hy])) hi)
theorem along_step {b : List Int} (hb : BytesOk b) {s : Enc} {d : Dec} (h : EncOk s) (ha : Along b s d) {ctx bit : Int} (hc0 : 0 ≤ ctx) (hc1 : ctx < 400) (hbit : bit = 0 ∨ bit = 1) (hi : Inside b (putE s ctx bit)) :
    bitD d ctx = bit ∧ Along b (putE s ctx bit) (stepD b d ctx) := by
  have hp := inside_part hb h hc0 hc1 hi
  have hr := partE_range h.lik h.w0 hc0 hc1
  obtain ⟨l1, l2, l3, l4⟩ := ha
  have hpe : partE d.lik d.width ctx = partE s.lik s.width ctx := by rw [l1, l2]
  have key : bitD d ctx = bit ∧ codeD d ctx = numAt b (s.out.length + 4) - (4294967296 * val s.out + lowE s ctx bit) ∧ widthD d ctx = widthE s ctx bit := by
    unfold bitD codeD widthD
    rw [hpe, l3, l2]
    unfold lowE widthE at hp ⊢
    unfold toldE
    rcases hbit with rfl | rfl
    · rw [if_pos rfl, if_pos rfl] at hp
      have hlt : numAt b (s.out.length + 4) - (4294967296 * val s.out + s.low) < partE s.lik s.width ctx := by omega
      rw [if_pos hlt, if_pos hlt, if_pos hlt, if_pos rfl, if_pos rfl]
      exact ⟨rfl, rfl, rfl⟩
    · rw [if_neg (by omega), if_neg (by omega)] at hp
      have hlt : ¬ numAt b (s.out.length + 4) - (4294967296 * val s.out + s.low) < partE s.lik s.width ctx := by omega
      rw [if_neg hlt, if_neg hlt, if_neg hlt, if_neg (by omega), if_neg (by omega)]
      exact ⟨rfl, by omega, rfl⟩
  obtain ⟨k1, k2, k3⟩ := key
  refine ⟨k1, ?_⟩
  obtain ⟨a1, a2, a3, a4, a5⟩ := widthE_range h (bit := bit) hc0 hc1
  have b2 := h.w1
  by_cases hw : widthE s ctx bit < 16777216
  · obtain ⟨e1, e2, e3⟩ := put_told h hc0 hc1 hw
    refine ⟨?_, ?_, ?_, ?_⟩
    · unfold stepD putE
      rw [k3, if_pos hw, if_pos hw, k1, l1]
    · rw [e2]
      unfold stepD
      rw [k3, if_pos hw]
      simp only []
      omega
    · rw [e1, e3]
      unfold stepD
      rw [k3, if_pos hw]
      simp only []
      rw [k2, l4, show s.out.length + 1 + 4 = (s.out.length + 4) + 1 from by omega]
      show _ = 256 * numAt b (s.out.length + 4) + byteAt b (s.out.length + 4) - _
      omega
    · rw [e3]
      unfold stepD
      rw [k3, if_pos hw]
      simp only []
      omega
  · obtain ⟨e1, e2, e3⟩ := put_told2 (s := s) hw
    refine ⟨?_, ?_, ?_, ?_⟩
    · unfold stepD putE
      rw [k3, if_neg hw, if_neg hw, k1, l1]
    · rw [e2]
      unfold stepD
      rw [k3, if_neg hw]
    · rw [e1, e3]
      unfold stepD
      rw [k3, if_neg hw]
      simp only []
      rw [k2]
    · rw [e3]
      unfold stepD
      rw [k3, if_neg hw]
      exact l4
theorem along_all {b : List Int} (hb : BytesOk b) : ∀ (l : List (Int × Int)) {s : Enc} {d : Dec}, EncOk s → Along b s d → BinsOk l → Inside b (putsE s l) → bitsD b d (l.map Prod.fst) = l.map Prod.snd
  | [], _, _, _, _, _, _ => rfl
  | x :: xs, s, d, h, ha, hl, hi => by
    have hx := hl x (by simp)
    have hk := put_ok h x.2 hx.1.1 hx.1.2
    have hl' : BinsOk xs := fun y hy => hl y (by simp [hy])
    obtain ⟨e, hn⟩ := along_step hb h ha hx.1.1 hx.1.2 hx.2 (inside_all hb xs hk hl' hi)
    rw [List.map_cons, List.map_cons, bitsD, e, along_all hb xs hk hn hl' hi]
theorem start_along (b : List Int) : Along b startE (startD b) := by
  refine ⟨rfl, rfl, ?_, rfl⟩
  show ((byteAt b 0 * 256 + byteAt b 1) * 256 + byteAt b 2) * 256 + byteAt b 3 = 256 * (256 * (256 * (256 * 0 + byteAt b 0) + byteAt b 1) + byteAt b 2) + byteAt b 3 - (4294967296 * 0 + 0)
  omega
/-- What was written is read back, whatever bytes come behind. -/
theorem dec_enc (l : List (Int × Int)) (hl : BinsOk l) (e : List Int) (he : BytesOk e) : decL (encL l ++ e) (l.map Prod.fst) = l.map Prod.snd := by
  have hk := puts_ok l start_ok hl
  obtain ⟨v1, v2, v3⟩ := end_val hk
  have hb : BytesOk (encL l ++ e) := fun x hx => by
    rcases List.mem_append.1 hx with hx | hx
    · exact v3 x hx
    · exact he x hx
  refine along_all hb l start_ok (start_along _) hl ?_
  have hn : numAt (encL l ++ e) ((putsE startE l).out.length + 4) = toldE (putsE startE l) := by
    rw [← v2, ← v1]
    exact numAt_val _ rfl
  have := hk.w0
  unfold Inside
  rw [hn]
  omega

/-- One bit again and again in one context: the width, the likelihood, how many bytes; at each count the bytes are few. -/
def wN (bit p w : Nat) : Nat := if bit = 0 then w / 4096 * p else w - w / 4096 * p
def pN (bit p : Nat) : Nat := if bit = 0 then p + (4096 - p) / 32 else p - p / 32
def cheapB (bit : Nat) : Nat → Nat → Nat → Nat → Nat → Bool
  | 0, _, _, _, _ => true
  | f + 1, n, p, w, c => Nat.ble (c + 4) (24 + n / 64) && (if wN bit p w < 16777216 then cheapB bit f (n + 1) (pN bit p) (wN bit p w * 256) (c + 1) else cheapB bit f (n + 1) (pN bit p) (wN bit p w) c)
theorem cheap0 : cheapB 0 3001 0 2048 4294967295 0 = true := by decide +kernel
theorem cheap1 : cheapB 1 3001 0 2048 4294967295 0 = true := by decide +kernel
theorem cheap_all (ctx : Nat) (hc : ctx < 400) (bit : Nat) (hbit : bit = 0 ∨ bit = 1) : ∀ (f n p w c : Nat) (s : Enc), EncOk s → rd s.lik (ctx : Int) = (p : Int) → s.width = (w : Int) → s.out.length = c → cheapB bit f n p w c = true →
    ∀ m, m < f → (putsE s (List.replicate m ((ctx : Int), (bit : Int)))).out.length + 4 ≤ 24 + (n + m) / 64
  | 0, _, _, _, _, _, _, _, _, _, _ => fun m hm => by omega
  | f + 1, n, p, w, c, s, hs, hp, hw, ho, hb => fun m hm => by
    unfold cheapB at hb
    rw [Bool.and_eq_true] at hb
    obtain ⟨hb1, hb2⟩ := hb
    have hb1 := Nat.le_of_ble_eq_true hb1
    cases m with
    | zero =>
      show s.out.length + 4 ≤ _
      omega
    | succ m =>
      have hr := lik_rd hs.lik (c := (ctx : Int)) (by omega) (by omega)
      have hpe : partE s.lik s.width ctx = ((w / 4096 * p : Nat) : Int) := by
        unfold partE
        rw [hp, hw]
        rw [Int.natCast_mul, Int.natCast_ediv]
        rfl
      have hpr := partE_range hs.lik hs.w0 (ctx := (ctx : Int)) (by omega) (by omega)
      have hwe : widthE s ctx bit = ((wN bit p w : Nat) : Int) := by
        unfold widthE wN
        rcases hbit with rfl | rfl
        · rw [if_pos (by omega), if_pos rfl, hpe]
        · rw [if_neg (by omega), if_neg (by omega), hpe, hw]
          omega
      have hl : rd (putE s ctx bit).lik (ctx : Int) = ((pN bit p : Nat) : Int) := by
        have e : (putE s ctx bit).lik = learnL s.lik ctx bit := by unfold putE; split <;> rfl
        rw [e, rd_nat (by simp [learnL, hs.lik.1]; exact hc)]
        simp only [learnL, Int.toNat_natCast, List.getElem_set_self]
        unfold learnP pN
        rw [hp]
        rcases hbit with rfl | rfl
        · rw [if_pos (by omega), if_pos rfl]
          omega
        · rw [if_neg (by omega), if_neg (by omega)]
          omega
      have hk := put_ok hs (bit : Int) (show (0 : Int) ≤ ctx by omega) (show (ctx : Int) < 400 by omega)
      rw [List.replicate_succ]
      show (putsE (putE s ctx bit) _).out.length + 4 ≤ _
      rw [show n + (m + 1) = (n + 1) + m from by omega]
      by_cases hlt : wN bit p w < 16777216
      · rw [if_pos hlt] at hb2
        have hlt' : widthE s ctx bit < 16777216 := by rw [hwe]; omega
        refine cheap_all ctx hc bit hbit f (n + 1) (pN bit p) (wN bit p w * 256) (c + 1) _ hk hl ?_ ?_ hb2 m (by omega)
        · unfold putE
          rw [if_pos hlt']
          simp only []
          omega
        · unfold putE
          rw [if_pos hlt']
          simp only [layL_length]
          omega
      · rw [if_neg hlt] at hb2
        have hlt' : ¬ widthE s ctx bit < 16777216 := by rw [hwe]; omega
        refine cheap_all ctx hc bit hbit f (n + 1) (pN bit p) (wN bit p w) c _ hk hl ?_ ?_ hb2 m (by omega)
        · unfold putE
          rw [if_neg hlt']
          exact hwe
        · unfold putE
          rw [if_neg hlt']
          exact ho
/-- Bits that are always the same cost next to nothing. -/
theorem cheap_enc (ctx n : Nat) (hc : ctx < 400) (bit : Nat) (hbit : bit = 0 ∨ bit = 1) (hn : n ≤ 3000) : (encL (List.replicate n ((ctx : Int), (bit : Int)))).length ≤ 24 + n / 64 := by
  have hr : rd likL (ctx : Int) = ((2048 : Nat) : Int) := by
    rw [rd_nat (by rw [likL_ok.1]; exact hc)]
    exact List.getElem_replicate _
  have hb : cheapB bit 3001 0 2048 4294967295 0 = true := by
    rcases hbit with rfl | rfl
    · exact cheap0
    · exact cheap1
  have := cheap_all ctx hc bit hbit 3001 0 2048 4294967295 0 startE start_ok hr rfl rfl hb n (by omega)
  simp only [encL, endE, layL_length]
  omega
end Go.Proofs.Ytdeheflbigggbaa.B
