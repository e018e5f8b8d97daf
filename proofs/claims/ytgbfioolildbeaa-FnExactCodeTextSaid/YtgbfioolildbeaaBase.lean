/-
  Plain words of my own for the printed functions: what holds from some number of rounds on, whole numbers without wrap, reads of lists.
-/
import Derived.Test.YtgbfioolildbeaaWWords
import Derived.Test.YtgbfioolildbeaaWApart
import Derived.Test.YtgbfioolildbeaaWMore
import Derived.Test.YtgbfioolildbeaaWKept
import Derived.Test.YtgbfioolildbeaaWLast
namespace Go.Proofs.Ytgbfioolildbeaa.B
open Go.RowKit Go.Proofs.YtgbfioolildbeaaW.PrintWords Go.Proofs.YtgbfioolildbeaaW.PrintMore

theorem w64 {x : Int} (h0 : -9223372036854775808 ≤ x) (h1 : x ≤ 9223372036854775807) : wrap64 x = x := by
  unfold wrap64
  omega

theorem shr_lo {k : IntKind} {x y : Int} (h : 0 ≤ x) : 0 ≤ shr k x y := Int.ediv_nonneg h (Int.le_of_lt (Int.pow_pos (by omega)))
theorem shr_hi {k : IntKind} {x y : Int} (h : 0 ≤ x) : shr k x y ≤ x := Int.ediv_le_self _ h
theorem noArm {r : Bool} {P : Prop} (h : (some false : Option Bool) = some r) (ht : r = true) : P := by
  cases h
  cases ht
theorem w64n {n : Nat} (h : n ≤ 1152921504606846976) : wrap64 (n : Int) = n := w64 (by omega) (by omega)

theorem rd_nat {l : List Int} {i : Nat} (h : i < l.length) : rd l (i : Int) = l[i] := by
  simp [rd, List.getD, h]

theorem rd_ge {l : List Int} {i : Nat} (h : l.length ≤ i) : rd l (i : Int) = 0 := by
  simp [rd, List.getD, List.getElem?_eq_none h]

theorem evStep {α : Type} {g f : Nat → Option α} {r : α} (h : ∀ k, g (k + 1) = f k) (k : Ev f r) : Ev g r := Ev.step h k

theorem evIf {α : Type} {c : Prop} [Decidable c] {f g : Nat → Option α} {r : α} (hf : c → Ev f r) (hg : ¬ c → Ev g r) : Ev (fun k => if c then f k else g k) r := by
  by_cases h : c
  · simp only [if_pos h]; exact hf h
  · simp only [if_neg h]; exact hg h

theorem evPos {α : Type} {c : Prop} [Decidable c] {f g : Nat → Option α} {r : α} (h : c) (hf : Ev f r) : Ev (fun k => if c then f k else g k) r := by
  simp only [if_pos h]; exact hf

theorem evNeg {α : Type} {c : Prop} [Decidable c] {f g : Nat → Option α} {r : α} (h : ¬ c) (hg : Ev g r) : Ev (fun k => if c then f k else g k) r := by
  simp only [if_neg h]; exact hg

/-- What is the same at each number of rounds. -/
theorem evConst {α : Type} {o : Option α} {r : α} (h : o = some r) : Ev (fun _ => o) r := ⟨0, fun _ _ => h⟩

theorem evBind {α β : Type} {g : Nat → Option α} {f : Nat → α → Option β} {a : α} {r : β} (h : Ev g a) (k : Ev (fun n => f n a) r) : Ev (fun n => (g n).bind (f n)) r := Ev.bind h k

theorem evCast {α : Type} {g : Nat → Option α} {r r' : α} (h : Ev g r) (e : r = r') : Ev g r' := e ▸ h

/-- A contract with another name for what is told. -/
theorem boolCall {P : Program} {f : Nat} {vs : Array Value} {w : World} {b c : Bool} (h : Calls P f vs w fun e w' => e = .returned (.bool b) ∧ Drawn0 w w') (e : b = c) : Calls P f vs w fun e w' => e = .returned (.bool c) ∧ Drawn0 w w' := e ▸ h

/-- Whether a number lies between two others. -/
def inR (x lo hi : Int) : Bool := decide (lo ≤ x) && decide (x ≤ hi)
theorem inR_iff {x lo hi : Int} : inR x lo hi = true ↔ lo ≤ x ∧ x ≤ hi := by simp [inR]
theorem inR_ite (x lo hi : Int) : (if x ≥ lo then (some (decide (x ≤ hi))) else (some false)) = some (inR x lo hi) := by
  by_cases h : lo ≤ x
  · simp [inR, h]
  · simp [inR, h]

def allR (l : List Int) (lo hi : Int) : Bool := l.all (fun x => inR x lo hi)

/-- The numbers from a on, one more each. -/
def countL (a : Int) (n : Nat) : List Int := (List.range n).map (fun (i : Nat) => a + i)
theorem countL_length (a : Int) (n : Nat) : (countL a n).length = n := by simp [countL]
theorem countL_succ (a : Int) (n : Nat) : countL a (n + 1) = countL a n ++ [a + n] := by simp [countL, List.range_succ]
theorem countL_get {a : Int} {n i : Nat} (h : i < n) : rd (countL a n) (i : Int) = a + i := by
  rw [rd_nat (by rw [countL_length]; exact h)]
  simp [countL]

/-- The samples of a row, of the first rows of a plane. -/
def rowL (g : Int → Int → Int) (w y : Nat) : List Int := (List.range w).map fun (x : Nat) => g y x
def planeL (g : Int → Int → Int) (w h : Nat) : List Int := (List.range h).flatMap (rowL g w)
theorem rowL_succ (g : Int → Int → Int) (w y : Nat) : rowL g (w + 1) y = rowL g w y ++ [g y w] := by simp [rowL, List.range_succ]
theorem planeL_succ (g : Int → Int → Int) (w h : Nat) : planeL g w (h + 1) = planeL g w h ++ rowL g w h := by simp [planeL, List.range_succ]
theorem rowL_length (g : Int → Int → Int) (w y : Nat) : (rowL g w y).length = w := by simp [rowL]
theorem planeL_length (g : Int → Int → Int) (w h : Nat) : (planeL g w h).length = h * w := by
  induction h with
  | zero => simp [planeL]
  | succ h ih => rw [planeL_succ, List.length_append, ih, rowL_length, Nat.succ_mul]
theorem rowL_congr {g f : Int → Int → Int} {w y : Nat} (h : ∀ x : Nat, x < w → g y x = f y x) : rowL g w y = rowL f w y := by
  unfold rowL
  exact List.map_congr_left fun x hx => h x (List.mem_range.1 hx)
theorem planeL_congr {g f : Int → Int → Int} {w : Nat} : ∀ {h : Nat}, (∀ y x : Nat, y < h → x < w → g y x = f y x) → planeL g w h = planeL f w h
  | 0, _ => rfl
  | h + 1, hh => by rw [planeL_succ, planeL_succ, planeL_congr (fun y x hy hx => hh y x (by omega) hx), rowL_congr (fun x hx => hh h x (by omega) hx)]
/-- Two loops, one in the other, that lay the samples of a plane. -/
theorem evPlane (L0 : Nat → List Int → Int → Option (List Int)) (L1 : Nat → List Int → Int → Int → Option (List Int)) (g : Int → Int → Int) (w h : Nat) (hw : w ≤ 4096) (hh : h ≤ 4096)
    (s1 : ∀ (out : List Int) (y x : Nat) (r : List Int), y < h → x < w → out.length ≤ 16777216 → Ev (fun k => L1 k (out ++ [g y x]) y ((x + 1 : Nat) : Int)) r → Ev (fun k => L1 k out y x) r)
    (e1 : ∀ (out : List Int) (y : Nat) (r : List Int), y < h → Ev (fun k => L0 k out ((y + 1 : Nat) : Int)) r → Ev (fun k => L1 k out y w) r)
    (s0 : ∀ (out : List Int) (y : Nat) (r : List Int), y < h → Ev (fun k => L1 k out y 0) r → Ev (fun k => L0 k out y) r)
    (e0 : ∀ (out : List Int), Ev (fun k => L0 k out h) out) : Ev (fun k => L0 k [] 0) (planeL g w h) := by
  have inner : ∀ (y : Nat) (r : List Int), y < h → Ev (fun k => L0 k (planeL g w (y + 1)) ((y + 1 : Nat) : Int)) r → ∀ (d x : Nat), x + d = w → Ev (fun k => L1 k (planeL g w y ++ rowL g x y) y x) r := by
    intro y r hy hc d
    induction d with
    | zero =>
      intro x hx
      obtain rfl : x = w := by omega
      exact e1 _ y r hy (by rw [← planeL_succ]; exact hc)
    | succ d ih =>
      intro x hx
      have hl : (planeL g w y ++ rowL g x y).length ≤ 16777216 := by
        rw [List.length_append, planeL_length, rowL_length]
        have h1 : (y + 1) * w ≤ 4096 * 4096 := Nat.mul_le_mul (by omega) hw
        rw [Nat.succ_mul] at h1
        omega
      refine s1 _ y x r hy (by omega) hl ?_
      rw [List.append_assoc, ← rowL_succ]
      exact ih (x + 1) (by omega)
  have outer : ∀ (d y : Nat), y + d = h → Ev (fun k => L0 k (planeL g w y) y) (planeL g w h) := by
    intro d
    induction d with
    | zero =>
      intro y hy
      obtain rfl : y = h := by omega
      exact e0 _
    | succ d ih =>
      intro y hy
      have := inner y _ (by omega) (ih (y + 1) (by omega)) w 0 (by omega)
      refine s0 _ y _ (by omega) ?_
      simpa [rowL] using this
  exact outer h 0 (by omega)

theorem rowSlice {α : Type} {d : Kd α} {e : TypeId} {w : World} {base : Nat} {ok : Nat → Prop} {v : Value} {xs : List α} (h : Aside0 (d.R e w base ok v xs)) : ∃ A n c, v = .slice A n c := (Kd.R_slice h.out).imp fun _ h => ⟨_, h⟩
theorem rowSliceS {α : Type} {d : Kd α} {e : TypeId} {w : World} {base : Nat} {ok : Nat → Prop} {v : Value} {xs : List α} (h : Aside0 (d.S e w base ok v xs)) : ∃ A n c, v = .slice A n c := (Kd.R_slice (Kd.S_R h.out)).imp fun _ h => ⟨_, h⟩
theorem reps_ints {R : Int → List Value → Prop} (hR : ∀ x, R x [Value.int .i64 x]) (xs : List Int) : Reps R 1 xs (xs.map (Value.int .i64)) := by
  refine ⟨by simp, fun j p h => ?_⟩
  have e : ((xs.map (Value.int .i64)).drop (j * 1)).take 1 = [Value.int .i64 p] := by
    rw [Nat.mul_one, ← List.map_drop, ← List.map_take]
    have h1 := (List.getElem?_eq_some_iff.1 h).1
    rw [List.drop_eq_getElem_cons h1]
    have h2 : xs[j] = p := (List.getElem?_eq_some_iff.1 h).2
    simp [h2]
  rw [e]
  exact hR p
/-- A literal of numbers: a row of the call's own. -/
theorem lit_ints {w W : World} (hb : Below w.heap.size w W) (e : Nat) (xs : List Int) (hm : xs.length ≤ 1000000) :
    Kd.R (Kd.int .i64) e (W.alloc (.cells (xs.map (Value.int .i64)).toArray e)) w.heap.size (fun _ => True) (.slice (some ⟨W.heap.size, 0, none⟩) xs.length xs.length) xs := by
  have := World.ownsRow_lit (base := w.heap.size) (e := e) (size := 1) W (xs.map (Value.int .i64)).toArray xs.length hb.size (by unfold maxLen; omega) (by simp)
  rw [List.toList_toArray] at this
  exact ⟨fun _ _ => trivial, xs.map (Value.int .i64), this, reps_ints (R := fun (x : Int) cs => cs = [Value.int .i64 x]) (fun _ => rfl) xs⟩

theorem drop_get {α : Type} {l : List α} {i : Nat} (h : i < l.length) : l.drop i = l[i] :: l.drop (i + 1) := List.drop_eq_getElem_cons h

theorem wf64 {x : Int} (h : (Lit.int .i64 x).wf = true) : -9223372036854775808 ≤ x ∧ x ≤ 9223372036854775807 := by
  simp [Lit.wf, IntKind.min, IntKind.max, IntKind.signed, IntKind.bits] at h
  omega

/-- From some number of rounds on there is an answer, and Q holds of it. -/
def EvP {α : Type} (g : Nat → Option α) (Q : α → Prop) : Prop := ∃ r, Ev g r ∧ Q r
theorem evpNow {α : Type} {o : Option α} {r : α} {Q : α → Prop} (e : o = some r) (h : Q r) : EvP (fun _ => o) Q := ⟨r, evConst e, h⟩
theorem evpOf {α : Type} {g : Nat → Option α} {r : α} {Q : α → Prop} (e : Ev g r) (h : Q r) : EvP g Q := ⟨r, e, h⟩
theorem evpBind {α β : Type} {g : Nat → Option α} {f : Nat → α → Option β} {Q : α → Prop} {R : β → Prop} (h : EvP g Q) (k : ∀ a, Q a → EvP (fun n => f n a) R) : EvP (fun n => (g n).bind (f n)) R := by
  obtain ⟨a, ha, hq⟩ := h
  obtain ⟨r, hr, hR⟩ := k a hq
  exact ⟨r, Ev.bind ha hr, hR⟩
theorem evpIf {α : Type} {c : Prop} [Decidable c] {f g : Nat → Option α} {Q : α → Prop} (hf : c → EvP f Q) (hg : ¬ c → EvP g Q) : EvP (fun k => if c then f k else g k) Q := by
  by_cases h : c
  · simp only [if_pos h]; exact hf h
  · simp only [if_neg h]; exact hg h
theorem evpPos {α : Type} {c : Prop} [Decidable c] {f g : Nat → Option α} {Q : α → Prop} (h : c) (hf : EvP f Q) : EvP (fun k => if c then f k else g k) Q := by
  simp only [if_pos h]; exact hf
theorem evpNeg {α : Type} {c : Prop} [Decidable c] {f g : Nat → Option α} {Q : α → Prop} (h : ¬ c) (hg : EvP g Q) : EvP (fun k => if c then f k else g k) Q := by
  simp only [if_neg h]; exact hg
theorem evpStep {α : Type} {g f : Nat → Option α} {Q : α → Prop} (h : ∀ k, g (k + 1) = f k) (k : EvP f Q) : EvP g Q := by
  obtain ⟨r, hr, hq⟩ := k
  exact ⟨r, Ev.step h hr, hq⟩
theorem evpMono {α : Type} {g : Nat → Option α} {Q R : α → Prop} (h : EvP g Q) (k : ∀ a, Q a → R a) : EvP g R := by
  obtain ⟨r, hr, hq⟩ := h
  exact ⟨r, hr, k r hq⟩
/-- What hands out drawn numbers: where it stands, its seed. -/
structure CurOk (m : Nat) (at_ seed : Int) : Prop where
  a0 : 0 ≤ at_
  a1 : at_ ≤ m
  s0 : 0 ≤ seed
  s1 : seed ≤ 70000
theorem CurOk.more {m n : Nat} {a s : Int} (h : CurOk m a s) (hn : m ≤ n) : CurOk n a s := ⟨h.a0, by have := h.a1; omega, h.s0, h.s1⟩
def CodeOk (code : List Int) : Prop := code.length ≤ 1048576 ∧ ∀ y ∈ code, 0 ≤ y ∧ y ≤ 255
theorem rd_range0 {l : List Int} {lo hi : Int} (h : ∀ y ∈ l, lo ≤ y ∧ y ≤ hi) (h0 : lo ≤ 0) (h1 : 0 ≤ hi) (i : Int) : lo ≤ rd l i ∧ rd l i ≤ hi := by
  unfold rd
  rw [List.getD_eq_getElem?_getD]
  rcases Nat.lt_or_ge i.toNat l.length with hl | hl
  · rw [List.getElem?_eq_getElem hl]
    exact h _ (List.getElem_mem _)
  · rw [List.getElem?_eq_none hl]
    exact ⟨h0, h1⟩
theorem tmod_range {a b : Int} (ha : 0 ≤ a) (hb : 0 < b) : 0 ≤ Int.tmod a b ∧ Int.tmod a b < b := by
  rw [Int.tmod_eq_emod_of_nonneg ha]
  exact ⟨Int.emod_nonneg _ (by omega), Int.emod_lt_of_pos _ hb⟩
theorem wf8 {x : Int} (h : (Lit.int .u8 x).wf = true) : 0 ≤ x ∧ x ≤ 255 := by
  simp [Lit.wf, IntKind.min, IntKind.max, IntKind.signed, IntKind.bits] at h
  omega
theorem tdiv3 {a : Int} (ha : 0 ≤ a) : Int.tdiv a 3 = a / 3 := Int.tdiv_eq_ediv_of_nonneg ha
section
open Go.Proofs.YtgbfioolildbeaaW.PrintLast
/-- A fact of a world, told of another one with the same heap. -/
theorem bkW {W0 W : World} {g : Nat} {o : Obj} (h : W0.heap[g]? = some o) (e : W0.heap = W.heap := by rfl) : W.heap[g]? = some o := by rw [← e]; exact h
theorem rW {α : Type} {d : Kd α} {e : Nat} {W0 W : World} {base : Nat} {ok : Nat → Prop} {v : Value} {xs : List α} (h : d.R e W0 base ok v xs) (he : W0.heap = W.heap := by rfl) : d.R e W base ok v xs := Kd.R_move h (fun k _ => by rw [he])
theorem sW {α : Type} {d : Kd α} {e : Nat} {W0 W : World} {base : Nat} {ok : Nat → Prop} {v : Value} {xs : List α} (h : d.S e W0 base ok v xs) (he : W0.heap = W.heap := by rfl) : d.S e W base ok v xs := Kd.S_move h (fun k _ => by rw [he])
theorem m0 {p : Prop} (h : p) : Aside0 p := ⟨h⟩
theorem bc {W : World} {g t : Nat} {cs : Array Value} {v : Value} (h : W.heap[g]? = some (.cells cs t (0, 0))) (i : Nat) (e : cs[i]? = some v := by rfl) : W.cell? ⟨g, i, none⟩ = some v := (blk_cell h i).trans e
/-- A number that lies between the blocks of two rows of rows. -/
theorem sepN {α : Type} {d : Kd α} {e : Nat} {W : World} {b : Nat} {ok : Nat → Prop} {v : Value} {xs : List α} (_ : d.S e W b ok v xs) : ∃ N, N = b := ⟨_, rfl⟩
theorem sepO {α : Type} {d : Kd α} {e N : Nat} {W w1 : World} {base : Nat} {ok : Nat → Prop} {v : Value} {xs : List α} (h : d.S e W base ok v xs) (hN : N = W.heap.size) (hb : Below W.heap.size W w1) : d.S e w1 base (fun k => ok k ∧ k < N) v xs := by
  subst hN
  exact Kd.S_old h hb
theorem sepW {α : Type} {d : Kd α} {e N : Nat} {w1 : World} {b : Nat} {ok : Nat → Prop} {v : Value} {xs : List α} (h : d.S e w1 b ok v xs) (hN : N = b) : d.S e w1 b (fun k => ok k ∧ N ≤ k) v xs := by
  subst hN
  exact Kd.S_mono (Kd.S_bound h) (fun _ hk => ⟨hk.1, hk.2.1⟩)
/-- What is handed over leads to blocks of other types than this row's. -/
theorem keptT {α : Type} {d : Kd α} {e : Nat} {W W2 : World} {base : Nat} {ok P : Nat → Prop} {v : Value} {xs : List α} {L : List Nat} (hE : d.E = []) (h : d.R e W base ok v xs) (hk : Kept W W2 P) (hP : ∀ k, P k → ∃ q, q ∈ L ∧ ∃ cells, W.heap[k]? = some (.cells cells q (0, 0))) (hL : ∀ q ∈ L, q ≠ e) : d.R e W2 base ok v xs := by
  refine Kd.R_mono (Kd.R_move (Kd.R_bound (Kd.R_tight hE h)) (fun k hk' => ?_)) (fun k hk' => h.1 k hk'.1.symm)
  obtain ⟨h1, h2, h3, q, hq, cs, hc⟩ := hk'
  refine hk.2 k h3 (fun hp => ?_)
  obtain ⟨q2, hq2, cs2, hc2⟩ := hP k hp
  rw [hE] at hq
  rw [List.mem_singleton.1 hq, hc2] at hc
  injection hc with hc
  injection hc with _ ht
  exact hL q2 hq2 ht
/-- What is handed over doesn't lead to this row. -/
theorem keptO {α : Type} {d : Kd α} {e : Nat} {W W2 : World} {base : Nat} {ok P : Nat → Prop} {v : Value} {xs : List α} (hE : d.E = []) (h : d.R e W base ok v xs) (hk : Kept W W2 P) (hn : ∀ k, some k = v.ownBlock → ¬ P k) : d.R e W2 base ok v xs :=
  Kd.R_mono (Kd.R_move (Kd.R_bound (Kd.R_tight hE h)) (fun k hk' => hk.2 k hk'.2.2.1 (hn k hk'.1))) (fun k hk' => h.1 k hk'.1.symm)
theorem blkNo {W : World} {g t : Nat} {cs : Array Value} {L : List Nat} (hb : W.heap[g]? = some (.cells cs t (0, 0))) (hP : ∃ q, q ∈ L ∧ ∃ cells, W.heap[g]? = some (.cells cells q (0, 0))) (hL : ∀ q ∈ L, q ≠ t) : False := by
  obtain ⟨q, hq, cs2, hc⟩ := hP
  rw [hb] at hc
  injection hc with hc
  injection hc with _ ht
  exact hL q hq ht.symm
/-- A row of rows that was handed over comes back: what the callee has made anew may be told, too. -/
theorem S_handed {α : Type} {d : Kd α} {e n base : Nat} {w : World} {ok Q : Nat → Prop} {v : Value} {xs : List α} (h : d.S e w base (fun k => (ok k ∧ Q k) ∨ n ≤ k) v xs) (hf : ∀ k, n ≤ k → ok k) : d.S e w base ok v xs := Kd.S_mono h (fun k hk => hk.elim (fun h => h.1) (hf k))
end
end Go.Proofs.Ytgbfioolildbeaa.B
