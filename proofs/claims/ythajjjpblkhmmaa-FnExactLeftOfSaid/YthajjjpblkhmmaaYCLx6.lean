/- Functions that a law of this seat reaches: written by a program of this session (wip/xprint.py), and by hand. -/
import Derived.Test.YthajjjpblkhmmaaYCLx0
import Derived.Test.YthajjjpblkhmmaaYCLx1
import Derived.Test.YthajjjpblkhmmaaYCLx3
import Derived.Test.YthajjjpblkhmmaaYCLx4
import Derived.Test.YthajjjpblkhmmaaYCLx5
namespace Go.Proofs.Ythajjjpblkhmmaa.CL
open Go.RowKit Go.Proofs.Ythajjjpblkhmmaa.B Go.Proofs.YthajjjpblkhmmaaW.PrintWords Go.Proofs.YthajjjpblkhmmaaW.PrintLast Go.Proofs.YthajjjpblkhmmaaW.PrintMore
attribute [local go_sem] max2_int min2_int max_two min_two max_three min_three max_four min_four   -- for this text's walks alone
set_option linter.unusedVariables false
set_option linter.unusedSimpArgs false

def rw64 (out : List (List Int)) : Prop := ∀ b ∈ out, b.length = 64
/-- What a scan tells of one component, from a place on: so many places. -/
def telK (c needs low : Int) : Nat → Nat → List (List Int) → Bool × List (List Int)
  | 0, _, out => (true, out)
  | n + 1, k, out => if rd (rd_L2 out c) (k : Int) = needs then telK c needs low n (k + 1) (out.set c.toNat ((rd_L2 out c).set k low)) else (false, out)
def telC (needs low : Int) (n f : Nat) : List Int → List (List Int) → Bool × List (List Int)
  | [], out => (true, out)
  | c :: cs, out => if (telK c needs low n f out).1 = true then telC needs low n f cs (telK c needs low n f out).2 else (false, (telK c needs low n f out).2)
def needI2 (h : Int) : Int := if h > 0 then h else -1
def telI (s : S28) (out : List (List Int)) : Bool × List (List Int) := telC (needI2 s.f3) s.f4 (s.f2 - s.f1 + 1).toNat s.f1.toNat s.f0 out
/-- What scans tell, one behind the other, each one looked at first. -/
def lefS (ok : S28 → Bool) : List S28 → List (List Int) → List (List Int) × Bool
  | [], out => (out, true)
  | s :: ss, out => if ok s = true then (if (telI s out).1 = true then lefS ok ss (telI s out).2 else ([], false)) else ([], false)
def unt (n : Nat) : List (List Int) := List.replicate n (List.replicate 64 (-1))
theorem unt_len (n : Nat) : (unt n).length = n := by simp [unt]
theorem unt_succ (n : Nat) : unt n ++ [List.replicate 64 (-1)] = unt (n + 1) := (List.replicate_succ' (n := n) (a := List.replicate 64 (-1 : Int))).symm
theorem unt_64 (n : Nat) : rw64 (unt n) := by
  intro b hb
  rw [List.eq_of_mem_replicate hb]
  simp
theorem rdSZ {out : List (List Int)} {c : Int} (h0 : 0 ≤ c) (h1 : c < (out.length : Int)) : rd_L2 out c = out[c.toNat]'(by omega) := by
  have h : c.toNat < out.length := by omega
  simp [rd_L2, List.getD, h]
theorem rw64_rd {out : List (List Int)} {c : Int} (hr : rw64 out) (h0 : 0 ≤ c) (h1 : c < (out.length : Int)) : (rd_L2 out c).length = 64 := by
  rw [rdSZ h0 h1]
  exact hr _ (List.getElem_mem _)
theorem rw64_set {out : List (List Int)} {c : Int} {k : Nat} {low : Int} (hr : rw64 out) (h0 : 0 ≤ c) (h1 : c < (out.length : Int)) : rw64 (out.set c.toNat ((rd_L2 out c).set k low)) := by
  intro b hb
  rcases List.mem_or_eq_of_mem_set hb with h | h
  · exact hr b h
  · rw [h, List.length_set]
    exact rw64_rd hr h0 h1
theorem telK_inv (c needs low : Int) (L : Nat) (h0 : 0 ≤ c) (h1 : c < (L : Int)) : ∀ (n k : Nat) (out : List (List Int)), out.length = L → rw64 out → (telK c needs low n k out).2.length = L ∧ rw64 (telK c needs low n k out).2
  | 0, _, out, hl, hr => ⟨hl, hr⟩
  | n + 1, k, out, hl, hr => by
    rw [telK]
    split
    · exact telK_inv c needs low L h0 h1 n (k + 1) _ (by rw [List.length_set]; exact hl) (rw64_set hr h0 (by omega))
    · exact ⟨hl, hr⟩
theorem telC_inv (needs low : Int) (n f L : Nat) : ∀ (cs : List Int) (out : List (List Int)), (∀ c ∈ cs, 0 ≤ c ∧ c < (L : Int)) → out.length = L → rw64 out → (telC needs low n f cs out).2.length = L ∧ rw64 (telC needs low n f cs out).2
  | [], out, _, hl, hr => ⟨hl, hr⟩
  | c :: cs, out, hc, hl, hr => by
    obtain ⟨h0, h1⟩ := hc c List.mem_cons_self
    obtain ⟨i1, i2⟩ := telK_inv c needs low L h0 h1 n f out hl hr
    rw [telC]
    split
    · exact telC_inv needs low n f L cs _ (fun x hx => hc x (List.mem_cons_of_mem _ hx)) i1 i2
    · exact ⟨i1, i2⟩
theorem compsB_mem (l : List Int) (n : Nat) (hn : n ≤ 1048576) : ∀ (d i : Nat), i + d = l.length → compsB l (n : Int) d i = true → ∀ c ∈ l.drop i, 0 ≤ c ∧ c < (n : Int)
  | 0, i, hi, _, c, hc => by
    rw [List.drop_eq_nil_of_le (by omega)] at hc
    simp at hc
  | d + 1, i, hi, h, c, hc => by
    have hlt : i < l.length := by omega
    rw [compsB, Bool.and_eq_true, Bool.and_eq_true] at h
    obtain ⟨h1, _, h3⟩ := h
    rw [List.drop_eq_getElem_cons hlt] at hc
    rcases List.mem_cons.1 hc with rfl | hc
    · rw [inR_iff, show rd l (i : Int) = l[i] from by simp [rd, List.getD, hlt], w64 (by omega) (by omega)] at h1
      omega
    · exact compsB_mem l n hn d (i + 1) (by omega) h3 c hc
theorem scan_facts {p w h r : Int} {l : List S42} (hl : l.length ≤ 1048576) {c : List Int} {f t hi lo : Int} (hb : scanB p w h r l c f t hi lo = true) : (∀ x ∈ c, 0 ≤ x ∧ x < (l.length : Int)) ∧ 0 ≤ f ∧ f ≤ t ∧ t ≤ 63 ∧ (hi = 0 ∨ 0 < hi) := by
  unfold scanB at hb
  rw [Bool.and_eq_true, Bool.and_eq_true] at hb
  obtain ⟨_, h2, h3⟩ := hb
  obtain ⟨b1, b2, b3, b4, b5, b6⟩ := pass_bounds h3
  refine ⟨fun x hx => ?_, b1, b2, b3, by omega⟩
  have := compsB_mem c l.length hl c.length 0 (by omega) h2
  rw [List.drop_zero] at this
  exact this x hx
theorem telI_inv {p w h r : Int} {l : List S42} (hl : l.length ≤ 1048576) {s : S28} (hb : scanB p w h r l s.f0 s.f1 s.f2 s.f3 s.f4 = true) {out : List (List Int)} (ho : out.length = l.length) (hr : rw64 out) : (telI s out).2.length = l.length ∧ rw64 (telI s out).2 :=
  telC_inv _ _ _ _ _ _ _ (scan_facts hl hb).1 ho hr
theorem sLeft_l4 (J : List S28) (i : Nat) (want : Int) (j : Nat) (p w h r : Int) (l : List S42) (c : List Int) (f t hi low : Int) (ht : t ≤ 63) (hj : j < c.length) (hc : 0 ≤ c[j] ∧ c[j] < (l.length : Int)) (R : List (List Int) → List (List Int) × Bool)
    (hR : ∀ out, out.length = l.length → rw64 out → Ev (fun k => spec_l12Left.l3 k J out i want (wrap64 ((j : Int) + 1)) p w h r l c f t hi low) (R out)) :
    ∀ (n k : Nat) (out : List (List Int)), (n : Int) + k = t + 1 → out.length = l.length → rw64 out → Ev (fun q => spec_l12Left.l4 q J out i want j k p w h r l c f t hi low) (if (telK c[j] want low n k out).1 = true then R (telK c[j] want low n k out).2 else ([], false)) := by
  have ec : rd c (j : Int) = c[j] := by simp [rd, List.getD, hj]
  intro n
  induction n with
  | zero =>
    intro k out hk ho hr
    rw [telK, if_pos rfl]
    exact Ev.step (fun q => by rw [spec_l12Left.l4]) (evNeg (by omega) (hR out ho hr))
  | succ n ih =>
    intro k out hk ho hr
    have h64 := rw64_rd hr hc.1 (by rw [ho]; exact hc.2)
    refine Ev.step (fun q => by rw [spec_l12Left.l4]) ?_
    rw [ec]
    refine evPos (by omega) (evPos (by omega) (evPos (by omega) (evPos hc.1 (evPos (by rw [ho]; exact hc.2) (evPos (by omega) (evPos (by rw [h64]; omega) ?_))))))
    rw [telK]
    refine evIf (fun he => ?_) (fun he => ?_)
    · rw [if_pos he, Int.toNat_natCast, show (k : Int) + 1 = ((k + 1 : Nat) : Int) from rfl, w64n (by omega)]
      exact ih (k + 1) _ (by omega) (by rw [List.length_set]; exact ho) (rw64_set hr hc.1 (by rw [ho]; exact hc.2))
    · rw [if_neg he, if_neg (by simp)]
      exact Ev.now _
theorem sLeft_l3 (J : List S28) (i : Nat) (want : Int) (p w h r : Int) (l : List S42) (c : List Int) (f t hi low : Int) (hcl : c.length ≤ 1048576) (h0 : 0 ≤ f) (hft : f ≤ t) (ht : t ≤ 63) (hc : ∀ x ∈ c, 0 ≤ x ∧ x < (l.length : Int)) (R : List (List Int) → List (List Int) × Bool)
    (hR : ∀ out, out.length = l.length → rw64 out → Ev (fun k => spec_l12Left.l2 k J out (wrap64 ((i : Int) + 1)) p w h r l) (R out)) :
    ∀ (d j : Nat) (out : List (List Int)), j + d = c.length → out.length = l.length → rw64 out → Ev (fun q => spec_l12Left.l3 q J out i want j p w h r l c f t hi low) (if (telC want low (t - f + 1).toNat f.toNat (c.drop j) out).1 = true then R (telC want low (t - f + 1).toNat f.toNat (c.drop j) out).2 else ([], false)) := by
  intro d
  induction d with
  | zero =>
    intro j out hj ho hr
    rw [List.drop_eq_nil_of_le (by omega), telC, if_pos rfl]
    exact Ev.step (fun q => by rw [spec_l12Left.l3]) (evNeg (by omega) (hR out ho hr))
  | succ d ih =>
    intro j out hj ho hr
    have hlt : j < c.length := by omega
    have hcj := hc _ (List.getElem_mem hlt)
    refine Ev.step (fun q => by rw [spec_l12Left.l3]) (evPos (by omega) ?_)
    have key := sLeft_l4 J i want j p w h r l c f t hi low ht hlt hcj (fun out => if (telC want low (t - f + 1).toNat f.toNat (c.drop (j + 1)) out).1 = true then R (telC want low (t - f + 1).toNat f.toNat (c.drop (j + 1)) out).2 else ([], false))
      (fun out' ho' hr' => by
        rw [show (j : Int) + 1 = ((j + 1 : Nat) : Int) from rfl, w64n (by omega)]
        exact ih (j + 1) out' (by omega) ho' hr') (t - f + 1).toNat f.toNat out (by omega) ho hr
    rw [List.drop_eq_getElem_cons hlt, telC]
    rw [show ((f.toNat : Nat) : Int) = f from by omega] at key
    by_cases hk : (telK c[j] want low (t - f + 1).toNat f.toNat out).1 = true
    · rw [if_pos hk] at key ⊢
      exact key
    · rw [if_neg hk] at key ⊢
      rw [if_neg (by simp)]
      exact key
theorem sLeft_l2 (J : List S28) (hJ : J.length ≤ 1048576) (hJx : ∀ s ∈ J, s.f0.length ≤ 1048576) (p w h r : Int) (l : List S42) (hl : l.length ≤ 1048576) :
    ∀ (d i : Nat) (out : List (List Int)), i + d = J.length → out.length = l.length → rw64 out → Ev (fun q => spec_l12Left.l2 q J out i p w h r l) (lefS (fun s => scanB p w h r l s.f0 s.f1 s.f2 s.f3 s.f4) (J.drop i) out) := by
  intro d
  induction d with
  | zero =>
    intro i out hi ho hr
    rw [List.drop_eq_nil_of_le (by omega), lefS]
    exact Ev.step (fun q => by rw [spec_l12Left.l2]) (evNeg (by omega) (Ev.now _))
  | succ d ih =>
    intro i out hi ho hr
    have hlt : i < J.length := by omega
    refine Ev.step (fun q => by rw [spec_l12Left.l2]) (evPos (by omega) (evPos (by omega) ?_))
    rw [rdS_nat hlt, List.drop_eq_getElem_cons hlt, lefS]
    obtain ⟨s, hs⟩ : ∃ s, s = J[i] := ⟨_, rfl⟩
    rw [← hs]
    have hsl : s.f0.length ≤ 1048576 := by rw [hs]; exact hJx _ (List.getElem_mem hlt)
    clear hs
    refine evBind (sScanOk_f p w h r l hl s.f0 hsl s.f1 s.f2 s.f3 s.f4) (evIf (fun hb => ?_) (fun hb => ?_))
    · rw [if_pos hb]
      obtain ⟨hc, h0, hft, ht, hhi⟩ := scan_facts hl hb
      have key := fun want => sLeft_l3 J i want p w h r l s.f0 s.f1 s.f2 s.f3 s.f4 hsl h0 hft ht hc (lefS (fun s => scanB p w h r l s.f0 s.f1 s.f2 s.f3 s.f4) (J.drop (i + 1)))
        (fun out' ho' hr' => by
          rw [show (i : Int) + 1 = ((i + 1 : Nat) : Int) from rfl, w64n (by omega)]
          exact ih (i + 1) out' (by omega) ho' hr') s.f0.length 0 out (by omega) ho hr
      simp only [List.drop_zero] at key
      unfold telI needI2
      refine evIf (fun hz => ?_) (fun hz => ?_)
      · rw [if_neg (show ¬ s.f3 > 0 by omega)]
        exact Ev.step (fun q => by rw [spec_l12Left.j4]; rfl) (key (-1))
      · rw [if_pos (show s.f3 > 0 by omega)]
        exact Ev.step (fun q => by rw [spec_l12Left.j4]; rfl) (key s.f3)
    · rw [if_neg hb]
      exact Ev.now _
theorem sLeft_l1 (J : List S28) (i : Nat) (p w h r : Int) (l : List S42) (out : List (List Int)) (ho : out.length < 5864062014805) (R : List (List Int) × Bool)
    (hR : Ev (fun q => spec_l12Left.l0 q J (out ++ [List.replicate 64 (-1)]) (wrap64 ((i : Int) + 1)) p w h r l) R) : ∀ (d k : Nat), k + d = 64 → Ev (fun q => spec_l12Left.l1 q J out i (List.replicate k (-1)) k p w h r l) R := by
  intro d
  induction d with
  | zero =>
    intro k hk
    obtain rfl : k = 64 := by omega
    exact Ev.step (fun q => by rw [spec_l12Left.l1]) (evNeg (by omega) (evPos ho hR))
  | succ d ih =>
    intro k hk
    refine Ev.step (fun q => by rw [spec_l12Left.l1]) (evPos (by omega) (evPos (by rw [List.length_replicate]; omega) ?_))
    rw [show (k : Int) + 1 = ((k + 1 : Nat) : Int) from rfl, w64n (by omega), ← List.replicate_succ']
    exact ih (k + 1) (by omega)
theorem sLeft_l0 (J : List S28) (hJ : J.length ≤ 1048576) (hJx : ∀ s ∈ J, s.f0.length ≤ 1048576) (p w h r : Int) (l : List S42) (hl : l.length ≤ 1048576) :
    ∀ (d i : Nat), i + d = l.length → Ev (fun q => spec_l12Left.l0 q J (unt i) i p w h r l) (lefS (fun s => scanB p w h r l s.f0 s.f1 s.f2 s.f3 s.f4) J (unt l.length)) := by
  intro d
  induction d with
  | zero =>
    intro i hi
    obtain rfl : i = l.length := by omega
    refine Ev.step (fun q => by rw [spec_l12Left.l0]) (evNeg (by omega) ?_)
    have key := sLeft_l2 J hJ hJx p w h r l hl J.length 0 (unt l.length) (by omega) (unt_len _) (unt_64 _)
    rw [List.drop_zero] at key
    exact key
  | succ d ih =>
    intro i hi
    refine Ev.step (fun q => by rw [spec_l12Left.l0]) (evPos (by omega) ?_)
    refine sLeft_l1 J i p w h r l (unt i) (by rw [unt_len]; omega) _ ?_ 64 0 (by omega)
    rw [show (i : Int) + 1 = ((i + 1 : Nat) : Int) from rfl, w64n (by omega), unt_succ]
    exact ih (i + 1) (by omega)
def leftI (p w h r : Int) (l : List S42) (J : List S28) : List (List Int) × Bool := if frameB p w h r l = true ∧ ¬ (J.length : Int) > 40 then lefS (fun s => scanB p w h r l s.f0 s.f1 s.f2 s.f3 s.f4) J (unt l.length) else ([], false)
theorem sLeft_f (J : List S28) (hJ : J.length ≤ 1048576) (hJx : ∀ s ∈ J, s.f0.length ≤ 1048576) (p w h r : Int) (l : List S42) (hl : l.length ≤ 1048576) : Ev (fun q => spec_l12Left.f q p w h r l J) (leftI p w h r l J) := by
  unfold spec_l12Left.f leftI
  refine evBind (Ev.now _) (evBind (sFrameOk_f p w h r l hl) (evIf (fun hb => ?_) (fun hb => ?_)))
  · by_cases h40 : (J.length : Int) > 40
    · rw [if_neg (fun hc => hc.2 h40), decide_eq_true h40]
      exact Ev.step (fun q => by rw [spec_l12Left.j0]) (evPos rfl (Ev.now _))
    · rw [if_pos ⟨hb, h40⟩, decide_eq_false h40]
      have key : Ev (fun q => spec_l12Left.l0 q J [] 0 p w h r l) (lefS (fun s => scanB p w h r l s.f0 s.f1 s.f2 s.f3 s.f4) J (unt l.length)) := sLeft_l0 J hJ hJx p w h r l hl l.length 0 (by omega)
      exact Ev.step (fun q => by rw [spec_l12Left.j0]) (evNeg (by simp) key)
  · rw [if_neg (fun hc => hb hc.1)]
    exact Ev.step (fun q => by rw [spec_l12Left.j0]) (evPos rfl (Ev.now _))
theorem lefS_inv (p w h r : Int) (l : List S42) (hl : l.length ≤ 1048576) : ∀ (J : List S28) (out : List (List Int)), out.length = l.length → rw64 out → (lefS (fun s => scanB p w h r l s.f0 s.f1 s.f2 s.f3 s.f4) J out).1.length ≤ l.length ∧ rw64 (lefS (fun s => scanB p w h r l s.f0 s.f1 s.f2 s.f3 s.f4) J out).1
  | [], out, ho, hr => ⟨Nat.le_of_eq ho, hr⟩
  | s :: J, out, ho, hr => by
    rw [lefS]
    split
    · rename_i hb
      obtain ⟨i1, i2⟩ := telI_inv hl hb ho hr
      split
      · exact lefS_inv p w h r l hl J _ i1 i2
      · exact ⟨by simp, fun b hb => by simp at hb⟩
    · exact ⟨by simp, fun b hb => by simp at hb⟩
theorem leftI_inv (p w h r : Int) (l : List S42) (hl : l.length ≤ 1048576) (J : List S28) : (leftI p w h r l J).1.length ≤ l.length ∧ rw64 (leftI p w h r l J).1 := by
  unfold leftI
  split
  · exact lefS_inv p w h r l hl J _ (unt_len _) (unt_64 _)
  · exact ⟨by simp, fun b hb => by simp at hb⟩

/-! ### spec_LeftOf: function 36 -/
def spec_LeftOf.f (k : Nat) (a0_0 : Int) (a0_1 : Int) (a0_2 : Int) (a0_3 : Int) (l0_4 : List (S42)) (l1 : List (S28)) : Option ((List (List Int))) := (spec_l12Left.f k a0_0 a0_1 a0_2 a0_3 l0_4 l1).bind fun bt170 => (some bt170.1)
theorem spec_LeftOf.mono : ∀ a0 a1 a2 a3 a4 a5 k, LeO (spec_LeftOf.f k a0 a1 a2 a3 a4 a5) (spec_LeftOf.f (k + 1) a0 a1 a2 a3 a4 a5) := by
 intro a0 a1 a2 a3 a4 a5 k
 unfold spec_LeftOf.f
 repeat' first
   | (with_reducible exact spec_l12Left.mono _ _ _ _ _ _ _)
   | (with_reducible exact LeO.refl _)
   | (with_reducible exact LeO.none _)
   | (with_reducible refine LeO.ite ?_ ?_)
   | (with_reducible refine LeO.bind ?_ (fun _ => ?_))
   | exact spec_l12Left.mono _ _ _ _ _ _ _
   | exact LeO.none _
   | refine LeO.ite ?_ ?_
   | refine LeO.bind ?_ (fun _ => ?_)
set_option maxHeartbeats 8000000 in
set_option maxRecDepth 100000 in
theorem spec_LeftOf.calls (k : Nat) (a0_0 : Int) (a0_1 : Int) (a0_2 : Int) (a0_3 : Int) (A0_4 : Option Addr) (c0_4 : Nat) (l0_4 : List (S42)) (A1 : Option Addr) (c1 : Nat) (l1 : List (S28)) (r : List (List Int)) (w : World) (hr0_4 : Kd.C k42 w A0_4 l0_4.length l0_4) (hc0_4 : l0_4.length ≤ c0_4) (hr1 : Kd.C k28 w A1 l1.length l1) (hc1 : l1.length ≤ c1) (h : spec_LeftOf.f k a0_0 a0_1 a0_2 a0_3 l0_4 l1 = some r) :
  Calls Try.prog 36 #[.agg #[.int .i64 a0_0, .int .i64 a0_1, .int .i64 a0_2, .int .i64 a0_3, .slice A0_4 l0_4.length c0_4], .slice A1 l1.length c1] w fun e w' => ∃ v0_ : Value, e = .returned (v0_) ∧ Kd.S (Kd.slice 3 (Kd.int .i64)) 22 w' w.heap.size (fun _ => True) v0_ r ∧ Below w.heap.size w w' := by
 have hu45 := Try.underlying45
 have HR0_4 := aM hr0_4
 have HC0_4 := aM hc0_4
 clear hr0_4 hc0_4
 have HR1 := aM hr1
 have HC1 := aM hc1
 clear hr1 hc1
 have HB := aM (Below.refl w.heap.size w)
 have H : ((spec_l12Left.f k a0_0 a0_1 a0_2 a0_3 l0_4 l1).bind fun bt170 => (some bt170.1)) = some r := h
 clear h
 replace H := oB H
 obtain ⟨⟨t170, t173⟩, A30, H⟩ := H
 replace H : (some t170) = some r := H
 have A3 := aM A30
 clear A30
 obtain rfl := Option.some.inj H
 go_enter Try.func36, Try.ntmps36
 go_wp2_with (first | ((with_reducible refine gate_dst (N := 2) rfl ?_); refine box_event ?hg (N := 2) ?hd (cs := #[.int .i64 a0_0, .int .i64 a0_1, .int .i64 a0_2, .int .i64 a0_3, .slice A0_4 l0_4.length c0_4]) (t := 45) ?hr ?_; (case hd => rfl); (case hg => rfl); (case hr => first | (go_simp; done) | (go_simp; rfl)); intro gb169 hg w4 hbox hb; have n0_ := aM (below_step (by repeat (first | (with_reducible first | exact HB.out | apply bA | apply bN | apply b1) | exact HB.out)) hb); have n1_ := aM (hbox); have n2_ := aM ((by rw [hg]; exact (below_size (by repeat (first | (with_reducible first | exact HB.out | apply bA | apply bN | apply b1) | exact HB.out))) : w.heap.size ≤ gb169)); have n3_ := aM ((by rw [hg]; exact (below_size (by repeat (first | (with_reducible first | exact HB.out | apply bA | apply bN | apply b1) | exact HB.out))) : w.heap.size ≤ gb169)); clear HB; have HB := n0_; have BK169 := n1_; have GW169 := n2_; have GE169 := n3_; clear n0_ n1_ n2_ n3_; clear hb hbox hg; have hcz5_0 : w4.cell? ⟨gb169, 0, none⟩ = some (.int .i64 a0_0) := (kC BK169.out 0).trans rfl; have hcz5_1 : w4.cell? ⟨gb169, 1, none⟩ = some (.int .i64 a0_1) := (kC BK169.out 1).trans rfl; have hcz5_2 : w4.cell? ⟨gb169, 2, none⟩ = some (.int .i64 a0_2) := (kC BK169.out 2).trans rfl; have hcz5_3 : w4.cell? ⟨gb169, 3, none⟩ = some (.int .i64 a0_3) := (kC BK169.out 3).trans rfl; have hcz5_4 : w4.cell? ⟨gb169, 4, none⟩ = some (.slice A0_4 l0_4.length c0_4) := (kC BK169.out 4).trans rfl; have hfz5_0 := blk_frozen BK169.out 0; have hfz5_1 := blk_frozen BK169.out 1; have hfz5_2 := blk_frozen BK169.out 2; have hfz5_3 := blk_frozen BK169.out 3; have hfz5_4 := blk_frozen BK169.out 4) | ((with_reducible refine gate_callee (f := 86) rfl ?_); refine goesL_ (some 10) rfl rfl Try.func86 (by kernel_rfl) rfl #[.agg #[.int .i64 a0_0, .int .i64 a0_1, .int .i64 a0_2, .int .i64 a0_3, .slice A0_4 l0_4.length c0_4], .slice A1 l1.length c1] rfl (by (try simp only [List.map_toArray, List.map_cons, List.map_nil]); first | done | rfl | (simp only [List.length_drop, List.length_take]; rfl)) ?_; (with_reducible refine (spec_l12Left.calls k a0_0 a0_1 a0_2 a0_3 _ _ l0_4 _ _ l1 t170 t173 _ ?side1 ?side2 ?side3 ?side4 A3.out).mono ?_); (case side1 => repeat (first | exact (Kd.C_below HR0_4.out HB.out) | (with_reducible first | refine Kd.C_alloc ?_ _ | refine Kd.C_drewN ?_ _ | refine Kd.C_drew ?_))); (case side2 => exact HC0_4.out); (case side3 => repeat (first | exact (Kd.C_below HR1.out HB.out) | (with_reducible first | refine Kd.C_alloc ?_ _ | refine Kd.C_drewN ?_ _ | refine Kd.C_drew ?_))); (case side4 => exact HC1.out); rintro e w6 ⟨v171, rfl, ho0, hb⟩; refine ⟨_, rfl, ?_⟩; have n0_ := aM (Kd.S_lower ho0 (below_size (by repeat (first | (with_reducible first | exact HB.out | apply bA | apply bN | apply b1 | refine bS ?_ GE169.out) | exact HB.out)))); have n1_ := aM (blk_below (g := gb169) (o := .cells #[.int .i64 a0_0, .int .i64 a0_1, .int .i64 a0_2, .int .i64 a0_3, .slice A0_4 l0_4.length c0_4] 45 (0, 0)) (by (with_reducible repeat (first | apply kN | apply kD | apply kA)); exact BK169.out) hb); have n2_ := aM (below_step (by repeat (first | (with_reducible first | exact HB.out | apply bA | apply bN | apply b1 | refine bS ?_ GE169.out) | exact HB.out)) hb); clear BK169; clear HB; have HO172 := n0_; have BK169 := n1_; have HB := n2_; clear n0_ n1_ n2_; (try clear hb); (try clear hb2); (try clear hk); (try clear hi); (try clear ho0)))
 go_ret
 exact ⟨_, by first | rfl | (simp [*, errW_none, errW_some] <;> rfl), by (with_reducible repeat (first | apply Kd.S_alloc | apply Kd.S_drewN | apply Kd.S_drew)); exact HO172.out, by repeat (first | (with_reducible first | exact HB.out | apply bA | apply bN | apply b1 | refine bS ?_ GE169.out) | exact HB.out)⟩

theorem sLeftOf_f (J : List S28) (hJ : J.length ≤ 1048576) (hJx : ∀ s ∈ J, s.f0.length ≤ 1048576) (p w h r : Int) (l : List S42) (hl : l.length ≤ 1048576) : Ev (fun q => spec_LeftOf.f q p w h r l J) (leftI p w h r l J).1 := by
  unfold spec_LeftOf.f
  exact evBind (sLeft_f J hJ hJx p w h r l hl) (Ev.now _)

/-! ### laws_szCompS: function 89 -/
def laws_szCompS.f (l0 : List (S130)) (a1 : Int) : Option (Int) := if (wrap64 (a1 - (l0.length : Int))) < 0 then (some (-1)) else (some (wrap64 (a1 - (l0.length : Int))))
set_option maxHeartbeats 8000000 in
set_option maxRecDepth 100000 in
theorem laws_szCompS.calls (A0 : Option Addr) (c0 : Nat) (l0 : List (S130)) (a1 : Int) (r : Int) (w : World) (hr0 : Kd.C k130 w A0 l0.length l0) (hc0 : l0.length ≤ c0) (h : laws_szCompS.f l0 a1 = some r) :
  Calls Try.prog 89 #[.slice A0 l0.length c0, .int .i64 a1] w fun e w' => e = .returned (.int .i64 r) ∧ Drawn0 w w' := by
 have HR0 := aM hr0
 have HC0 := aM hc0
 clear hr0 hc0
 have H : (if (wrap64 (a1 - (l0.length : Int))) < 0 then (some (-1)) else (some (wrap64 (a1 - (l0.length : Int))))) = some r := h
 clear h
 by_cases c3 : (wrap64 (a1 - (l0.length : Int))) < 0
 ·rw [if_pos c3] at H
  have c3b0 : decide ((wrap64 (a1 - (l0.length : Int))) < 0) = true := decide_eq_true c3
  clear c3
  obtain rfl := Option.some.inj H
  go_enter Try.func89, Try.ntmps89
  go_wp2
  go_ret
  exact ⟨by first | rfl | (simp; done) | (simp [*]; done), by repeat (first | exact Drawn0.refl _ | apply Drawn0.step)⟩
 ·rw [if_neg c3] at H
  have c3b0 : decide ((wrap64 (a1 - (l0.length : Int))) < 0) = false := decide_eq_false c3
  clear c3
  obtain rfl := Option.some.inj H
  go_enter Try.func89, Try.ntmps89
  go_wp2
  go_ret
  exact ⟨by first | rfl | (simp; done) | (simp [*]; done), by repeat (first | exact Drawn0.refl _ | apply Drawn0.step)⟩

theorem szCompS_f (l : List S130) (a : Int) (h0 : 0 ≤ a) (h1 : a ≤ 1152921504606846976) (hl : l.length ≤ 9223372036854775807) : laws_szCompS.f l a = some (if a - (l.length : Int) < 0 then -1 else a - l.length) := by
  unfold laws_szCompS.f
  rw [w64 (by omega) (by omega)]
  split <;> rfl

/-! ### laws_szFrame: function 39 -/
def laws_szFrame.f (a0_0 : Int) (a0_1 : Int) (a0_2 : Int) (a0_3 : Int) (l0_4 : List (S130)) (a1 : Int) : Option (Int) := (laws_szCompS.f l0_4 a1).bind fun t175 => (if t175 < 0 then (some (-1)) else (some t175))
set_option maxHeartbeats 8000000 in
set_option maxRecDepth 100000 in
theorem laws_szFrame.calls (a0_0 : Int) (a0_1 : Int) (a0_2 : Int) (a0_3 : Int) (A0_4 : Option Addr) (c0_4 : Nat) (l0_4 : List (S130)) (a1 : Int) (r : Int) (w : World) (hr0_4 : Kd.C k130 w A0_4 l0_4.length l0_4) (hc0_4 : l0_4.length ≤ c0_4) (h : laws_szFrame.f a0_0 a0_1 a0_2 a0_3 l0_4 a1 = some r) :
  Calls Try.prog 39 #[.agg #[.int .i64 a0_0, .int .i64 a0_1, .int .i64 a0_2, .int .i64 a0_3, .slice A0_4 l0_4.length c0_4], .int .i64 a1] w fun e w' => e = .returned (.int .i64 r) ∧ Below w.heap.size w w' := by
 have hu55 := Try.underlying55
 have HR0_4 := aM hr0_4
 have HC0_4 := aM hc0_4
 clear hr0_4 hc0_4
 have HB := aM (Below.refl w.heap.size w)
 have H : ((laws_szCompS.f l0_4 a1).bind fun t175 => (if t175 < 0 then (some (-1)) else (some t175))) = some r := h
 clear h
 replace H := oB H
 obtain ⟨t175, A30, H⟩ := H
 replace H : (if t175 < 0 then (some (-1)) else (some t175)) = some r := H
 have A3 := aM A30
 clear A30
 by_cases c4 : t175 < 0
 ·rw [if_pos c4] at H
  have c4b0 : decide (t175 < 0) = true := decide_eq_true c4
  clear c4
  obtain rfl := Option.some.inj H
  go_enter Try.func39, Try.ntmps39
  go_wp2_with (first | ((with_reducible refine gate_dst (N := 2) rfl ?_); refine box_event ?hg (N := 2) ?hd (cs := #[.int .i64 a0_0, .int .i64 a0_1, .int .i64 a0_2, .int .i64 a0_3, .slice A0_4 l0_4.length c0_4]) (t := 55) ?hr ?_; (case hd => rfl); (case hg => rfl); (case hr => first | (go_simp; done) | (go_simp; rfl)); intro gb174 hg w5 hbox hb; have n0_ := aM (below_step (by repeat (first | (with_reducible first | exact HB.out | apply bA | apply bN | apply b1) | exact HB.out)) hb); have n1_ := aM (hbox); have n2_ := aM ((by rw [hg]; exact (below_size (by repeat (first | (with_reducible first | exact HB.out | apply bA | apply bN | apply b1) | exact HB.out))) : w.heap.size ≤ gb174)); have n3_ := aM ((by rw [hg]; exact (below_size (by repeat (first | (with_reducible first | exact HB.out | apply bA | apply bN | apply b1) | exact HB.out))) : w.heap.size ≤ gb174)); clear HB; have HB := n0_; have BK174 := n1_; have GW174 := n2_; have GE174 := n3_; clear n0_ n1_ n2_ n3_; clear hb hbox hg; have hcz6_0 : w5.cell? ⟨gb174, 0, none⟩ = some (.int .i64 a0_0) := (kC BK174.out 0).trans rfl; have hcz6_1 : w5.cell? ⟨gb174, 1, none⟩ = some (.int .i64 a0_1) := (kC BK174.out 1).trans rfl; have hcz6_2 : w5.cell? ⟨gb174, 2, none⟩ = some (.int .i64 a0_2) := (kC BK174.out 2).trans rfl; have hcz6_3 : w5.cell? ⟨gb174, 3, none⟩ = some (.int .i64 a0_3) := (kC BK174.out 3).trans rfl; have hcz6_4 : w5.cell? ⟨gb174, 4, none⟩ = some (.slice A0_4 l0_4.length c0_4) := (kC BK174.out 4).trans rfl; have hfz6_0 := blk_frozen BK174.out 0; have hfz6_1 := blk_frozen BK174.out 1; have hfz6_2 := blk_frozen BK174.out 2; have hfz6_3 := blk_frozen BK174.out 3; have hfz6_4 := blk_frozen BK174.out 4) | ((with_reducible refine gate_callee (f := 89) rfl ?_); refine goesL_ (some 8) rfl rfl Try.func89 (by kernel_rfl) rfl #[.slice A0_4 l0_4.length c0_4, .int .i64 a1] rfl (by (try simp only [List.map_toArray, List.map_cons, List.map_nil]); first | done | rfl | (simp only [List.length_drop, List.length_take]; rfl)) ?_; (with_reducible refine (laws_szCompS.calls _ _ l0_4 a1 t175 _ ?side1 ?side2 A3.out).mono ?_); (case side1 => repeat (first | exact (Kd.C_below HR0_4.out HB.out) | (with_reducible first | refine Kd.C_alloc ?_ _ | refine Kd.C_drewN ?_ _ | refine Kd.C_drew ?_))); (case side2 => exact HC0_4.out); rintro e w' ⟨rfl, ⟨nd, rfl⟩⟩; refine ⟨_, rfl, ?_⟩))
  go_ret
  exact ⟨by first | rfl | (simp [*, errW_none, errW_some] <;> rfl), by repeat (first | (with_reducible first | exact HB.out | apply bA | apply bN | apply b1 | refine bS ?_ GE174.out) | exact HB.out)⟩
 ·rw [if_neg c4] at H
  have c4b0 : decide (t175 < 0) = false := decide_eq_false c4
  clear c4
  obtain rfl := Option.some.inj H
  go_enter Try.func39, Try.ntmps39
  go_wp2_with (first | ((with_reducible refine gate_dst (N := 2) rfl ?_); refine box_event ?hg (N := 2) ?hd (cs := #[.int .i64 a0_0, .int .i64 a0_1, .int .i64 a0_2, .int .i64 a0_3, .slice A0_4 l0_4.length c0_4]) (t := 55) ?hr ?_; (case hd => rfl); (case hg => rfl); (case hr => first | (go_simp; done) | (go_simp; rfl)); intro gb174 hg w7 hbox hb; have n0_ := aM (below_step (by repeat (first | (with_reducible first | exact HB.out | apply bA | apply bN | apply b1) | exact HB.out)) hb); have n1_ := aM (hbox); have n2_ := aM ((by rw [hg]; exact (below_size (by repeat (first | (with_reducible first | exact HB.out | apply bA | apply bN | apply b1) | exact HB.out))) : w.heap.size ≤ gb174)); have n3_ := aM ((by rw [hg]; exact (below_size (by repeat (first | (with_reducible first | exact HB.out | apply bA | apply bN | apply b1) | exact HB.out))) : w.heap.size ≤ gb174)); clear HB; have HB := n0_; have BK174 := n1_; have GW174 := n2_; have GE174 := n3_; clear n0_ n1_ n2_ n3_; clear hb hbox hg; have hcz8_0 : w7.cell? ⟨gb174, 0, none⟩ = some (.int .i64 a0_0) := (kC BK174.out 0).trans rfl; have hcz8_1 : w7.cell? ⟨gb174, 1, none⟩ = some (.int .i64 a0_1) := (kC BK174.out 1).trans rfl; have hcz8_2 : w7.cell? ⟨gb174, 2, none⟩ = some (.int .i64 a0_2) := (kC BK174.out 2).trans rfl; have hcz8_3 : w7.cell? ⟨gb174, 3, none⟩ = some (.int .i64 a0_3) := (kC BK174.out 3).trans rfl; have hcz8_4 : w7.cell? ⟨gb174, 4, none⟩ = some (.slice A0_4 l0_4.length c0_4) := (kC BK174.out 4).trans rfl; have hfz8_0 := blk_frozen BK174.out 0; have hfz8_1 := blk_frozen BK174.out 1; have hfz8_2 := blk_frozen BK174.out 2; have hfz8_3 := blk_frozen BK174.out 3; have hfz8_4 := blk_frozen BK174.out 4) | ((with_reducible refine gate_callee (f := 89) rfl ?_); refine goesL_ (some 8) rfl rfl Try.func89 (by kernel_rfl) rfl #[.slice A0_4 l0_4.length c0_4, .int .i64 a1] rfl (by (try simp only [List.map_toArray, List.map_cons, List.map_nil]); first | done | rfl | (simp only [List.length_drop, List.length_take]; rfl)) ?_; (with_reducible refine (laws_szCompS.calls _ _ l0_4 a1 t175 _ ?side1 ?side2 A3.out).mono ?_); (case side1 => repeat (first | exact (Kd.C_below HR0_4.out HB.out) | (with_reducible first | refine Kd.C_alloc ?_ _ | refine Kd.C_drewN ?_ _ | refine Kd.C_drew ?_))); (case side2 => exact HC0_4.out); rintro e w' ⟨rfl, ⟨nd, rfl⟩⟩; refine ⟨_, rfl, ?_⟩))
  go_ret
  exact ⟨by first | rfl | (simp [*, errW_none, errW_some] <;> rfl), by repeat (first | (with_reducible first | exact HB.out | apply bA | apply bN | apply b1 | refine bS ?_ GE174.out) | exact HB.out)⟩

theorem szFrame_f (p w h r : Int) (l : List S130) (a : Int) (h0 : 0 ≤ a) (h1 : a ≤ 1152921504606846976) (hl : l.length ≤ 9223372036854775807) : laws_szFrame.f p w h r l a = some (if a - (l.length : Int) < 0 then -1 else a - l.length) := by
  unfold laws_szFrame.f
  rw [szCompS_f l a h0 h1 hl]
  simp only [Option.bind_some]
  by_cases hc : a - (l.length : Int) < 0
  · rw [if_pos hc]; rfl
  · rw [if_neg hc, if_neg hc]

/-! ### laws_toComp: function 123 -/
def laws_toComp.f (a0_0 : Int) (a0_1 : Int) (a0_2 : Int) (a0_3 : Int) : Option (Int × Int × Int × Int) := some (a0_0, a0_1, a0_2, a0_3)
set_option maxHeartbeats 8000000 in
set_option maxRecDepth 100000 in
theorem laws_toComp.calls (a0_0 : Int) (a0_1 : Int) (a0_2 : Int) (a0_3 : Int) (r1 : Int) (r2 : Int) (r3 : Int) (r4 : Int) (w : World) (h : laws_toComp.f a0_0 a0_1 a0_2 a0_3 = some (r1, r2, r3, r4)) :
  Calls Try.prog 123 #[.agg #[.int .i64 a0_0, .int .i64 a0_1, .int .i64 a0_2, .int .i64 a0_3]] w fun e w' => e = .returned (.agg #[.int .i64 r1, .int .i64 r2, .int .i64 r3, .int .i64 r4]) ∧ Below w.heap.size w w' := by
 have hu130 := Try.underlying130
 have hu42 := Try.underlying42
 have HB := aM (Below.refl w.heap.size w)
 have H : (some (a0_0, a0_1, a0_2, a0_3)) = some (r1, r2, r3, r4) := h
 clear h
 simp only [Option.some.injEq, Prod.mk.injEq] at H
 obtain ⟨rfl, rfl, rfl, rfl⟩ := H
 go_enter Try.func123, Try.ntmps123
 go_wp2_with (first | ((with_reducible refine gate_dst (N := 1) rfl ?_); refine box_event ?hg (N := 1) ?hd (cs := #[.int .i64 a0_0, .int .i64 a0_1, .int .i64 a0_2, .int .i64 a0_3]) (t := 130) ?hr ?_; (case hd => rfl); (case hg => rfl); (case hr => first | (go_simp; done) | (go_simp; rfl)); intro gb176 hg w2 hbox hb; have n0_ := aM (below_step (by repeat (first | (with_reducible first | exact HB.out | apply bA | apply bN | apply b1) | exact HB.out)) hb); have n1_ := aM (hbox); have n2_ := aM ((by rw [hg]; exact (below_size (by repeat (first | (with_reducible first | exact HB.out | apply bA | apply bN | apply b1) | exact HB.out))) : w.heap.size ≤ gb176)); have n3_ := aM ((by rw [hg]; exact (below_size (by repeat (first | (with_reducible first | exact HB.out | apply bA | apply bN | apply b1) | exact HB.out))) : w.heap.size ≤ gb176)); clear HB; have HB := n0_; have BK176 := n1_; have GW176 := n2_; have GE176 := n3_; clear n0_ n1_ n2_ n3_; clear hb hbox hg) | ((with_reducible refine gate_dst (N := 2) rfl ?_); refine box_event ?hg (N := 2) ?hd (cs := #[.int .i64 0, .int .i64 0, .int .i64 0, .int .i64 0]) (t := 42) ?hr ?_; (case hd => rfl); (case hg => rfl); (case hr => first | (go_simp; done) | (go_simp; rfl)); intro gb177 hg w3 hbox hb; have n0_ := aM (blk_below (g := gb176) (o := .cells #[.int .i64 a0_0, .int .i64 a0_1, .int .i64 a0_2, .int .i64 a0_3] 130 (0, 0)) (by (with_reducible repeat (first | apply kN | apply kD | apply kA)); exact BK176.out) hb); have n1_ := aM (below_step (by repeat (first | (with_reducible first | exact HB.out | apply bA | apply bN | apply b1 | refine bS ?_ GE176.out) | exact HB.out)) hb); have n2_ := aM (hbox); have n3_ := aM ((by rw [hg]; exact (below_size (by repeat (first | (with_reducible first | exact HB.out | apply bA | apply bN | apply b1 | refine bS ?_ GE176.out) | exact HB.out))) : w.heap.size ≤ gb177)); have n4_ := aM ((by rw [hg]; exact (below_size (by repeat (first | (with_reducible first | exact HB.out | apply bA | apply bN | apply b1 | refine bS ?_ GE176.out) | exact HB.out))) : w.heap.size ≤ gb177)); have n5_ := aM ((by rw [hg]; exact Nat.ne_of_lt (blk_lt (g := gb176) (o := .cells #[.int .i64 a0_0, .int .i64 a0_1, .int .i64 a0_2, .int .i64 a0_3] 130 (0, 0)) (by (with_reducible repeat (first | apply kN | apply kD | apply kA)); exact BK176.out)) : gb176 ≠ gb177)); have n6_ := aM ((by rw [hg]; exact Nat.ne_of_gt (blk_lt (g := gb176) (o := .cells #[.int .i64 a0_0, .int .i64 a0_1, .int .i64 a0_2, .int .i64 a0_3] 130 (0, 0)) (by (with_reducible repeat (first | apply kN | apply kD | apply kA)); exact BK176.out)) : gb177 ≠ gb176)); clear BK176; clear HB; have BK176 := n0_; have HB := n1_; have BK177 := n2_; have GW177 := n3_; have GE177 := n4_; have NB176_177 := n5_; have NB177_176 := n6_; clear n0_ n1_ n2_ n3_ n4_ n5_ n6_; clear hb hbox hg) | ((with_reducible refine gate_dst (N := 3) rfl ?_); refine box_event ?hg (N := 3) ?hd (cs := #[.int .i64 0, .int .i64 0, .int .i64 0, .int .i64 0]) (t := 42) ?hr ?_; (case hd => rfl); (case hg => rfl); (case hr => first | (go_simp; done) | (go_simp; rfl)); intro gb178 hg w4 hbox hb; have n0_ := aM (blk_below (g := gb176) (o := .cells #[.int .i64 a0_0, .int .i64 a0_1, .int .i64 a0_2, .int .i64 a0_3] 130 (0, 0)) (by (with_reducible repeat (first | apply kN | apply kD | apply kA)); exact BK176.out) hb); have n1_ := aM (blk_below (g := gb177) (o := .cells #[.int .i64 0, .int .i64 0, .int .i64 0, .int .i64 0] 42 (0, 0)) (by (with_reducible repeat (first | apply kN | apply kD | apply kA)); exact BK177.out) hb); have n2_ := aM (below_step (by repeat (first | (with_reducible first | exact HB.out | apply bA | apply bN | apply b1 | refine bS ?_ GE176.out | refine bS ?_ GE177.out) | exact HB.out)) hb); have n3_ := aM (hbox); have n4_ := aM ((by rw [hg]; exact (below_size (by repeat (first | (with_reducible first | exact HB.out | apply bA | apply bN | apply b1 | refine bS ?_ GE176.out | refine bS ?_ GE177.out) | exact HB.out))) : w.heap.size ≤ gb178)); have n5_ := aM ((by rw [hg]; exact (below_size (by repeat (first | (with_reducible first | exact HB.out | apply bA | apply bN | apply b1 | refine bS ?_ GE176.out | refine bS ?_ GE177.out) | exact HB.out))) : w.heap.size ≤ gb178)); have n6_ := aM ((by rw [hg]; exact Nat.ne_of_lt (blk_lt (g := gb176) (o := .cells #[.int .i64 a0_0, .int .i64 a0_1, .int .i64 a0_2, .int .i64 a0_3] 130 (0, 0)) (by (with_reducible repeat (first | apply kN | apply kD | apply kA)); exact BK176.out)) : gb176 ≠ gb178)); have n7_ := aM ((by rw [hg]; exact Nat.ne_of_gt (blk_lt (g := gb176) (o := .cells #[.int .i64 a0_0, .int .i64 a0_1, .int .i64 a0_2, .int .i64 a0_3] 130 (0, 0)) (by (with_reducible repeat (first | apply kN | apply kD | apply kA)); exact BK176.out)) : gb178 ≠ gb176)); have n8_ := aM ((by rw [hg]; exact Nat.ne_of_lt (blk_lt (g := gb177) (o := .cells #[.int .i64 0, .int .i64 0, .int .i64 0, .int .i64 0] 42 (0, 0)) (by (with_reducible repeat (first | apply kN | apply kD | apply kA)); exact BK177.out)) : gb177 ≠ gb178)); have n9_ := aM ((by rw [hg]; exact Nat.ne_of_gt (blk_lt (g := gb177) (o := .cells #[.int .i64 0, .int .i64 0, .int .i64 0, .int .i64 0] 42 (0, 0)) (by (with_reducible repeat (first | apply kN | apply kD | apply kA)); exact BK177.out)) : gb178 ≠ gb177)); clear BK176; clear BK177; clear HB; have BK176 := n0_; have BK177 := n1_; have HB := n2_; have BK178 := n3_; have GW178 := n4_; have GE178 := n5_; have NB176_178 := n6_; have NB178_176 := n7_; have NB177_178 := n8_; have NB178_177 := n9_; clear n0_ n1_ n2_ n3_ n4_ n5_ n6_ n7_ n8_ n9_; clear hb hbox hg; have hnb5 := NB176_177.out; have hnc5 := NB177_176.out; have hnb6 := NB176_178.out; have hnc6 := NB178_176.out; have hcz7_0 : w4.cell? ⟨gb176, 0, none⟩ = some (.int .i64 a0_0) := (kC BK176.out 0).trans rfl; have hcz7_1 : w4.cell? ⟨gb176, 1, none⟩ = some (.int .i64 a0_1) := (kC BK176.out 1).trans rfl; have hcz7_2 : w4.cell? ⟨gb176, 2, none⟩ = some (.int .i64 a0_2) := (kC BK176.out 2).trans rfl; have hcz7_3 : w4.cell? ⟨gb176, 3, none⟩ = some (.int .i64 a0_3) := (kC BK176.out 3).trans rfl; have hfz7_0 := blk_frozen BK176.out 0; have hfz7_1 := blk_frozen BK176.out 1; have hfz7_2 := blk_frozen BK176.out 2; have hfz7_3 := blk_frozen BK176.out 3; have hnb8 := NB178_177.out; have hnc8 := NB177_178.out; have hcz9_0 : w4.cell? ⟨gb178, 0, none⟩ = some (.int .i64 0) := (kC BK178.out 0).trans rfl; have hcz9_1 : w4.cell? ⟨gb178, 1, none⟩ = some (.int .i64 0) := (kC BK178.out 1).trans rfl; have hcz9_2 : w4.cell? ⟨gb178, 2, none⟩ = some (.int .i64 0) := (kC BK178.out 2).trans rfl; have hcz9_3 : w4.cell? ⟨gb178, 3, none⟩ = some (.int .i64 0) := (kC BK178.out 3).trans rfl; have hfz9_0 := blk_frozen BK178.out 0; have hfz9_1 := blk_frozen BK178.out 1; have hfz9_2 := blk_frozen BK178.out 2; have hfz9_3 := blk_frozen BK178.out 3; have hcz10_0 : w4.cell? ⟨gb177, 0, none⟩ = some (.int .i64 0) := (kC BK177.out 0).trans rfl; have hcz10_1 : w4.cell? ⟨gb177, 1, none⟩ = some (.int .i64 0) := (kC BK177.out 1).trans rfl; have hcz10_2 : w4.cell? ⟨gb177, 2, none⟩ = some (.int .i64 0) := (kC BK177.out 2).trans rfl; have hcz10_3 : w4.cell? ⟨gb177, 3, none⟩ = some (.int .i64 0) := (kC BK177.out 3).trans rfl; have hfz10_0 := blk_frozen BK177.out 0; have hfz10_1 := blk_frozen BK177.out 1; have hfz10_2 := blk_frozen BK177.out 2; have hfz10_3 := blk_frozen BK177.out 3))
 refine bodyPost_ret (results_cell_row rfl _ _ gb177 42 #[.int .i64 a0_0, .int .i64 a0_1, .int .i64 a0_2, .int .i64 a0_3] (0, 0) _ rfl (by (with_reducible repeat (first | apply kN | apply kD | apply kA)); refine blk_put (cs := #[.int .i64 a0_0, .int .i64 a0_1, .int .i64 a0_2, .int .i64 0]) ?_ 3 _ rfl; (with_reducible repeat (first | apply kN | apply kD | apply kA)); refine blk_put (cs := #[.int .i64 a0_0, .int .i64 a0_1, .int .i64 0, .int .i64 0]) ?_ 2 _ rfl; (with_reducible repeat (first | apply kN | apply kD | apply kA)); refine blk_put (cs := #[.int .i64 a0_0, .int .i64 0, .int .i64 0, .int .i64 0]) ?_ 1 _ rfl; (with_reducible repeat (first | apply kN | apply kD | apply kA)); refine blk_put (cs := #[.int .i64 0, .int .i64 0, .int .i64 0, .int .i64 0]) ?_ 0 _ rfl; (with_reducible repeat (first | apply kN | apply kD | apply kA)); refine blk_far ?_ NB177_178.out _; (with_reducible repeat (first | apply kN | apply kD | apply kA)); refine blk_far ?_ NB177_178.out _; (with_reducible repeat (first | apply kN | apply kD | apply kA)); refine blk_far ?_ NB177_178.out _; (with_reducible repeat (first | apply kN | apply kD | apply kA)); refine blk_far ?_ NB177_178.out _; (with_reducible repeat (first | apply kN | apply kD | apply kA)); exact BK177.out) Try.underlying42 rfl (by kernel_rfl)) rfl ?_
 exact ⟨by first | rfl | (simp [*, errW_none, errW_some] <;> rfl), by repeat (first | (with_reducible first | exact HB.out | apply bA | apply bN | apply b1 | refine bS ?_ GE176.out | refine bS ?_ GE177.out | refine bS ?_ GE178.out) | exact HB.out)⟩

/-! ### laws_toCompS: function 91 -/
def laws_toCompS.l0 : Nat → List (S130) → List (S42) → Int → Option ((List (S42)))
  | 0, _, _, _ => none
  | k + 1, x0, x3, x4 => if x4 < (x0.length : Int) then (if 0 ≤ x4 then ((laws_toComp.f ((rd_T130 x0 x4).f0) ((rd_T130 x0 x4).f1) ((rd_T130 x0 x4).f2) ((rd_T130 x0 x4).f3)).bind fun bt183 => (if x4 < (x3.length : Int) then (laws_toCompS.l0 k x0 (x3.set (x4 : Int).toNat (⟨bt183.1, bt183.2.1, bt183.2.2.1, bt183.2.2.2⟩ : S42)) (wrap64 (x4 + 1))) else (none))) else (none)) else (some x3)
def laws_toCompS.f (k : Nat) (l0 : List (S130)) : Option ((List (S42))) := if 0 ≤ (l0.length : Int) then (if ((l0.length : Int) : Int).toNat ≤ 8796093022208 then (laws_toCompS.l0 k l0 (List.replicate ((l0.length : Int) : Int).toNat z42) 0) else (none)) else (none)
theorem laws_toCompS.mono_l : ∀ k, (∀ y0 y1 y2, LeO (laws_toCompS.l0 k y0 y1 y2) (laws_toCompS.l0 (k + 1) y0 y1 y2))
 | 0 => fun _ _ _ r h => by simp [laws_toCompS.l0] at h
 | k + 1 => by
  have ih0 := laws_toCompS.mono_l k
  ·intro y0 y1 y2
   unfold laws_toCompS.l0
   repeat' first
   | (with_reducible exact ih0 _ _ _)
   | (with_reducible exact LeO.refl _)
   | (with_reducible exact LeO.none _)
   | (with_reducible refine LeO.ite ?_ ?_)
   | (with_reducible refine LeO.bind ?_ (fun _ => ?_))
   | exact ih0 _ _ _
   | exact LeO.none _
   | refine LeO.ite ?_ ?_
   | refine LeO.bind ?_ (fun _ => ?_)
theorem laws_toCompS.mono : ∀ a0 k, LeO (laws_toCompS.f k a0) (laws_toCompS.f (k + 1) a0) := by
 intro a0 k
 have ih0 := laws_toCompS.mono_l k
 unfold laws_toCompS.f
 repeat' first
   | (with_reducible exact ih0 _ _ _)
   | (with_reducible exact LeO.refl _)
   | (with_reducible exact LeO.none _)
   | (with_reducible refine LeO.ite ?_ ?_)
   | (with_reducible refine LeO.bind ?_ (fun _ => ?_))
   | exact ih0 _ _ _
   | exact LeO.none _
   | refine LeO.ite ?_ ?_
   | refine LeO.bind ?_ (fun _ => ?_)
set_option maxHeartbeats 8000000 in
set_option maxRecDepth 100000 in
theorem laws_toCompS.calls (k : Nat) (A0 : Option Addr) (c0 : Nat) (l0 : List (S130)) (r : List (S42)) (w : World) (hr0 : Kd.C k130 w A0 l0.length l0) (hc0 : l0.length ≤ c0) (h : laws_toCompS.f k l0 = some r) :
  Calls Try.prog 91 #[.slice A0 l0.length c0] w fun e w' => ∃ v0_ : Value, e = .returned (v0_) ∧ Kd.R k42 42 w' w.heap.size (fun _ => True) v0_ r ∧ Below w.heap.size w w' := by
 have hu130 := Try.underlying130
 have hu42 := Try.underlying42
 have HR0 := aM hr0
 have HC0 := aM hc0
 clear hr0 hc0
 have HB := aM (Below.refl w.heap.size w)
 have H : (if 0 ≤ (l0.length : Int) then (if ((l0.length : Int) : Int).toNat ≤ 8796093022208 then (laws_toCompS.l0 k l0 (List.replicate ((l0.length : Int) : Int).toNat z42) 0) else (none)) else (none)) = some r := h
 clear h
 by_cases c2 : 0 ≤ (l0.length : Int)
 ·rw [if_pos c2] at H
  have c2b0 := eq_true c2
  have c2b1 : decide (0 ≤ (l0.length : Int)) = true := decide_eq_true c2
  clear c2
  by_cases c3 : ((l0.length : Int) : Int).toNat ≤ 8796093022208
  ·rw [if_pos c3] at H
   have c3b0 := eq_true c3
   have c3b1 : decide (((l0.length : Int) : Int).toNat ≤ 8796093022208) = true := decide_eq_true c3
   clear c3
   obtain ⟨y179, hy179⟩ : ∃ y_ : List (S42), y_ = (List.replicate ((l0.length : Int) : Int).toNat z42) := ⟨_, rfl⟩
   replace H : (laws_toCompS.l0 k l0 y179 0) = some r := by first | (rw [hy179]; with_reducible exact H) | (have H2_ := (Option.bind_some _ _).symm.trans H; rw [hy179]; with_reducible exact H2_) | (have H2_ := (Option.bind_some _ _).symm.trans H; with_reducible exact H2_) | with_reducible exact H | (rw [hy179]; exact H) | exact H
   have Ny179 := aM hy179
   clear hy179
   have H' := aM H
   clear H
   go_enter Try.func91, Try.ntmps91
   go_wp2_with (first | ((with_reducible refine gate_dst (N := 7) rfl ?_); refine Kd.R_make k42 _ 42 rfl (N := 7) rfl 43 _ _ rfl (l0.length : Int) rfl rfl Try.underlying43 (.agg #[(.int .i64 0), (.int .i64 0), (.int .i64 0), (.int .i64 0)]) 32 info42 rfl (by decide) (by omega) z42 (ok := fun _ => True) (okp := fun _ => True) (k42_mkM _ _ _ z42 ) (fun _ hk => hk) trivial (oD (by first | (with_reducible assumption) | assumption)) (Nat.le_trans (Nat.mul_le_mul_right _ (oD (by first | (with_reducible assumption) | assumption) : (l0.length : Int).toNat ≤ 8796093022208)) (by omega)) (Below.refl _ _) (Nat.le_refl _) ?_; intro v180 w4 ho5 hb hg_ hnew_; clear hg_ hnew_; (first | rw [← Ny179.out] at ho5 | (simp only [Int.reduceToNat] at ho5; rw [← Ny179.out] at ho5)); have n0_ := aM (Kd.R_lower ho5 (below_size (by repeat (first | (with_reducible first | exact HB.out | apply bA | apply bN | apply b1) | exact HB.out)))); have n1_ := aM (below_step (by repeat (first | (with_reducible first | exact HB.out | apply bA | apply bN | apply b1) | exact HB.out)) hb); clear HB; have HO181 := n0_; have HB := n1_; clear n0_ n1_; clear hb ho5))
   go_loopg [4] k (fun kq v4 w' => ∃ (x3_1 : List (S42)) (x4_1 : Int), v4 = .int .i64 x4_1 ∧ Aside0 (laws_toCompS.l0 kq l0 x3_1 x4_1 = some r) ∧ Aside0 (kq ≤ k) ∧ Aside0 (Kd.R k42 42 w' w.heap.size (fun _ => True) v180 x3_1) ∧ Aside0 (Below w.heap.size w w'))
   case atStart => exact ⟨(y179), (0), (by first | rfl | (simp; done) | (simp [*]; done)), H', ⟨Nat.le_refl _⟩, ⟨by (with_reducible repeat (first | apply Kd.R_alloc | apply Kd.R_drewN | apply Kd.R_drew)); exact HO181.out⟩, ⟨by repeat (first | (with_reducible first | exact HB.out | apply bA | apply bN | apply b1) | exact HB.out)⟩⟩
   case round =>
    clear H'
    (try clear c2); (try clear c2b0); (try clear c2b1); (try clear p2); (try clear c3); (try clear c3b0); (try clear c3b1)
    obtain ⟨x3_1, x4_1, rfl, HA, HK1, HO_3, HB⟩ := hrel
    cases gk with
    | zero => exact absurd HA.out (by simp [laws_toCompS.l0])
    | succ k1 =>
     have H := HA.out
     clear HA
     simp only [laws_toCompS.l0] at H
     by_cases c6 : x4_1 < (l0.length : Int)
     ·rw [if_pos c6] at H
      have c6b0 : decide (x4_1 < (l0.length : Int)) = true := decide_eq_true c6
      clear c6
      by_cases c7 : 0 ≤ x4_1
      ·rw [if_pos c7] at H
       have c7b0 : decide (0 ≤ x4_1) = true := decide_eq_true c7
       clear c7
       replace H := oB H
       obtain ⟨⟨t183, t184, t185, t186⟩, A80, H⟩ := H
       replace H : (if x4_1 < (x3_1.length : Int) then (laws_toCompS.l0 k1 l0 (x3_1.set (x4_1 : Int).toNat (⟨t183, t184, t185, t186⟩ : S42)) (wrap64 (x4_1 + 1))) else (none)) = some r := H
       have A8 := aM A80
       clear A80
       by_cases c9 : x4_1 < (x3_1.length : Int)
       ·rw [if_pos c9] at H
        have c9b0 : decide (x4_1 < (x3_1.length : Int)) = true := decide_eq_true c9
        clear c9
        obtain ⟨y187, hy187⟩ : ∃ y_ : List (S42), y_ = (x3_1.set (x4_1 : Int).toNat (⟨t183, t184, t185, t186⟩ : S42)) := ⟨_, rfl⟩
        replace H : (laws_toCompS.l0 k1 l0 y187 (wrap64 (x4_1 + 1))) = some r := by first | (rw [hy187]; with_reducible exact H) | (have H2_ := (Option.bind_some _ _).symm.trans H; rw [hy187]; with_reducible exact H2_) | (have H2_ := (Option.bind_some _ _).symm.trans H; with_reducible exact H2_) | with_reducible exact H | (rw [hy187]; exact H) | exact H
        have Ny187 := aM hy187
        clear hy187
        have H' := aM H
        clear H
        have p182 : 0 ≤ (x4_1 : Int) := oD (by first | (with_reducible assumption) | assumption)
        have q182 : x4_1 < (l0.length : Int) := oD (by first | (with_reducible assumption) | assumption)
        obtain ⟨ad182, e182, hx182_0, hx182_1, hx182_2, hx182_3⟩ := at_T130 HR0.out x4_1 p182 q182
        cases e182
        replace hx182_0 := (HB.out.cell (wL w _ hx182_0)).trans hx182_0
        replace hx182_1 := (HB.out.cell (wL w _ hx182_1)).trans hx182_1
        replace hx182_2 := (HB.out.cell (wL w _ hx182_2)).trans hx182_2
        replace hx182_3 := (HB.out.cell (wL w _ hx182_3)).trans hx182_3
        replace p182 := eq_true p182
        replace q182 := eq_true q182
        go_wp2_with (first | ((with_reducible refine gate_callee (f := 123) rfl ?_); refine goesL_ (some 20) rfl rfl Try.func123 (by kernel_rfl) rfl #[.agg #[.int .i64 ((rd_T130 l0 x4_1).f0), .int .i64 ((rd_T130 l0 x4_1).f1), .int .i64 ((rd_T130 l0 x4_1).f2), .int .i64 ((rd_T130 l0 x4_1).f3)]] rfl (by (try simp only [List.map_toArray, List.map_cons, List.map_nil]); first | done | rfl | (simp only [List.length_drop, List.length_take]; rfl)) ?_; (with_reducible refine (laws_toComp.calls ((rd_T130 l0 x4_1).f0) ((rd_T130 l0 x4_1).f1) ((rd_T130 l0 x4_1).f2) ((rd_T130 l0 x4_1).f3) t183 t184 t185 t186 _ A8.out).mono ?_); rintro e w11 ⟨rfl, hb⟩; refine ⟨_, rfl, ?_⟩; have n0_ := aM (Kd.R_below (by (with_reducible repeat (first | apply Kd.R_alloc | apply Kd.R_drewN | apply Kd.R_drew)); exact HO_3.out) hb); have n1_ := aM (below_step (by repeat (first | (with_reducible first | exact HB.out | apply bA | apply bN | apply b1) | exact HB.out)) hb); clear HO_3; clear HB; have HO_3 := n0_; have HB := n1_; clear n0_ n1_; (try clear hb); (try clear hb2); (try clear hk); (try clear hi); have p10 : 0 ≤ (x4_1 : Int) := oD (by first | (with_reducible assumption) | assumption); have q10 : (x4_1 : Int) < ((x3_1.length : Int) : Int) := oD (by first | (with_reducible assumption) | assumption); obtain ⟨go10, co10, eo10, gb10, gl10, cl10, HG10⟩ := Kd.R_form HO_3.out (by omega); (first | cases eo10 | (injection eo10 with ea_ en_ ec_; (first | subst ea_ | (injection ea_ with ea_; subst ea_)); subst ec_; clear en_)); have GB10 := aM gb10; have GG10 := aM HG10; clear gb10 gl10 HG10; obtain ⟨ce10, hcl10, hM10, hcc10, hfr10⟩ := Kd.R_elem HO_3.out z42 (x4_1 : Int) p10 q10; obtain rfl := k42_openM hM10; have hx10_0 : w11.cell? ⟨go10, (x4_1 : Int).toNat * 4, none⟩ = some (.int .i64 ((rd_T42 x3_1 x4_1).f0)) := hcc10 0 _ rfl; have hx10_1 : w11.cell? ⟨go10, (x4_1 : Int).toNat * 4 + 1, none⟩ = some (.int .i64 ((rd_T42 x3_1 x4_1).f1)) := hcc10 1 _ rfl; have hx10_2 : w11.cell? ⟨go10, (x4_1 : Int).toNat * 4 + 2, none⟩ = some (.int .i64 ((rd_T42 x3_1 x4_1).f2)) := hcc10 2 _ rfl; have hx10_3 : w11.cell? ⟨go10, (x4_1 : Int).toNat * 4 + 3, none⟩ = some (.int .i64 ((rd_T42 x3_1 x4_1).f3)) := hcc10 3 _ rfl; have hf10_0 : w11.frozen? ⟨go10, (x4_1 : Int).toNat * 4, none⟩ = false := hfr10 0; have hf10_1 : w11.frozen? ⟨go10, (x4_1 : Int).toNat * 4 + 1, none⟩ = false := hfr10 1; have hf10_2 : w11.frozen? ⟨go10, (x4_1 : Int).toNat * 4 + 2, none⟩ = false := hfr10 2; have hf10_3 : w11.frozen? ⟨go10, (x4_1 : Int).toNat * 4 + 3, none⟩ = false := hfr10 3; (try clear hcl10); (try clear hcc10); (try clear hfr10); (try clear hM10); replace p10 := eq_true p10; replace q10 := eq_true q10; have HX12 := aM (show Kd.R k42 42 w11 w.heap.size (fun _ => True) (.slice (some ⟨go10, 0, none⟩) x3_1.length co10) x3_1 from (by (with_reducible repeat (first | apply Kd.R_alloc | apply Kd.R_drewN | apply Kd.R_drew)); exact HO_3.out)); obtain ⟨ce12, hcl12, hM12, hcc12, hfr12⟩ := Kd.R_elem HX12.out z42 (x4_1 : Int) (oD (by first | (with_reducible assumption) | assumption)) (by have h_ : (x4_1 : Int) < ((x3_1.length : Int) : Int) := oD (by first | (with_reducible assumption) | assumption); first | exact h_ | (have e_ := (Kd.R_reads' HO_3.out).1; omega) | simpa using h_); obtain rfl := k42_openM hM12; have HP12 := Kd.R_seg HX12.out (x4_1 : Int) (oD (by first | (with_reducible assumption) | assumption)) (by have h_ : (x4_1 : Int) < ((x3_1.length : Int) : Int) := oD (by first | (with_reducible assumption) | assumption); first | exact h_ | (have e_ := (Kd.R_reads' HO_3.out).1; omega) | simpa using h_) (seg := [.int .i64 t183, .int .i64 t184, .int .i64 t185, .int .i64 t186]) (j := 0) hcl12 hcc12 (show 4 ≤ 4 from by decide) (x' := (⟨t183, t184, t185, t186⟩ : S42)) (k42_mkM _ _ _ (⟨t183, t184, t185, t186⟩ : S42) ) (fun _ hk => hk); have hx12_0 := hcc12 0 _ rfl; (try simp only [show (k42).sz = 4 from rfl, Nat.mul_one, Nat.add_zero] at hx12_0); have hf12_0 := hfr12 0; (try simp only [show (k42).sz = 4 from rfl, Nat.mul_one, Nat.add_zero] at hf12_0); have hx12_1 := hcc12 1 _ rfl; (try simp only [show (k42).sz = 4 from rfl, Nat.mul_one, Nat.add_zero] at hx12_1); have hf12_1 := hfr12 1; (try simp only [show (k42).sz = 4 from rfl, Nat.mul_one, Nat.add_zero] at hf12_1); have hx12_2 := hcc12 2 _ rfl; (try simp only [show (k42).sz = 4 from rfl, Nat.mul_one, Nat.add_zero] at hx12_2); have hf12_2 := hfr12 2; (try simp only [show (k42).sz = 4 from rfl, Nat.mul_one, Nat.add_zero] at hf12_2); have hx12_3 := hcc12 3 _ rfl; (try simp only [show (k42).sz = 4 from rfl, Nat.mul_one, Nat.add_zero] at hx12_3); have hf12_3 := hfr12 3; (try simp only [show (k42).sz = 4 from rfl, Nat.mul_one, Nat.add_zero] at hf12_3); (try clear hcl12); (try clear hcc12); (try clear hfr12); (try clear hM12)) | ((with_reducible refine gate_store (t := 42) (p := 21) rfl ?_); refine store_event (t := 42) (p := 21) (v := ?vo_w13) (w1 := ((((w11.setCell ⟨go10, (x4_1 : Int).toNat * 4, none⟩ (.int .i64 t183)).setCell ⟨go10, (x4_1 : Int).toNat * 4 + 1, none⟩ (.int .i64 t184)).setCell ⟨go10, (x4_1 : Int).toNat * 4 + 2, none⟩ (.int .i64 t185)).setCell ⟨go10, (x4_1 : Int).toNat * 4 + 3, none⟩ (.int .i64 t186))) ?hg ?ho ?hn ?hr ?_; (case ho => rfl); (case hg => rfl); (case hn => rfl); (case hr => first | (go_simp; done) | (go_simp; rfl)); intro w13 hw; have hg : w11.grownBy w13 (some go10) := (by rw [hw]; exact HP12.2); have hp_ : Kd.R k42 42 w13 w.heap.size (fun _ => True) (.slice (some ⟨go10, 0, none⟩) x3_1.length co10) y187 := (by rw [hw, Ny187.out]; exact HP12.1); clear HP12; have n0_ := aM (hp_); have n1_ := aM ((by rw [hw]; exact bS (bS (bS (bS (HB.out) GB10.out) GB10.out) GB10.out) GB10.out : Below w.heap.size w w13)); clear HO_3; clear HB; have HO_3 := n0_; have HB := n1_; clear n0_ n1_; clear hg hw hp_))
        go_roundg k1
        case measure => have := HK1.out; omega
        case rel => exact ⟨(y187), (wrap64 (x4_1 + 1)), (by first | rfl | (simp; done) | (simp [*]; done)), H', ⟨by have := HK1.out; omega⟩, ⟨by (with_reducible repeat (first | apply Kd.R_alloc | apply Kd.R_drewN | apply Kd.R_drew)); exact HO_3.out⟩, ⟨by repeat (first | (with_reducible first | exact HB.out | apply bA | apply bN | apply b1) | exact HB.out)⟩⟩
       ·rw [if_neg c9] at H
        exact absurd H (by simp)
      ·rw [if_neg c7] at H
       exact absurd H (by simp)
     ·rw [if_neg c6] at H
      have c6b0 : decide (x4_1 < (l0.length : Int)) = false := decide_eq_false c6
      clear c6
      obtain rfl := Option.some.inj H
      go_wp2
      go_ret
      exact ⟨_, by first | rfl | (simp [*, errW_none, errW_some] <;> rfl), by (with_reducible repeat (first | apply Kd.R_alloc | apply Kd.R_drewN | apply Kd.R_drew)); exact HO_3.out, by repeat (first | (with_reducible first | exact HB.out | apply bA | apply bN | apply b1) | exact HB.out)⟩
  ·rw [if_neg c3] at H
   exact absurd H (by simp)
 ·rw [if_neg c2] at H
  exact absurd H (by simp)

def convC (x : S130) : S42 := ⟨x.f0, x.f1, x.f2, x.f3⟩
theorem toCompS_l0 (l : List S130) (hl : l.length ≤ 1048576) : ∀ (d i : Nat) (m : List S42), i + d = l.length → m.length = l.length → m.take i = (l.map convC).take i → Ev (fun k => laws_toCompS.l0 k l m i) (l.map convC) := by
  intro d
  induction d with
  | zero =>
    intro i m hi hm ht
    refine Ev.step (fun k => by rw [laws_toCompS.l0]) ?_
    rw [List.take_of_length_le (by omega), List.take_of_length_le (by rw [List.length_map]; omega)] at ht
    subst ht
    exact evNeg (by omega) (Ev.now _)
  | succ d ih =>
    intro i m hi hm ht
    have h1 : i < l.length := by omega
    refine Ev.step (fun k => by rw [laws_toCompS.l0]) ?_
    refine evPos (by omega) (evPos (by omega) (evBind (evConst rfl) (evPos (by omega) ?_)))
    rw [w64 (by omega) (by omega), Int.toNat_natCast, show rd_T130 l (i : Int) = l[i] from by simp [rd_T130, List.getD, h1]]
    refine ih (i + 1) _ (by omega) (by simp [hm]) ?_
    rw [List.take_succ_eq_append_getElem (by simp; omega), List.take_succ_eq_append_getElem (by simpa using h1), List.take_set_of_le (Nat.le_refl _), ht]
    simp [convC]
theorem toCompS_f (l : List S130) (hl : l.length ≤ 1048576) : Ev (fun k => laws_toCompS.f k l) (l.map convC) := by
  unfold laws_toCompS.f
  refine evPos (by omega) (evPos (by omega) ?_)
  exact toCompS_l0 l hl l.length 0 _ (by omega) (by simp) (by simp)

/-! ### laws_toFrame: function 41 -/
def laws_toFrame.f (k : Nat) (a0_0 : Int) (a0_1 : Int) (a0_2 : Int) (a0_3 : Int) (l0_4 : List (S130)) : Option (Int × Int × Int × Int × (List (S42))) := (laws_toCompS.f k l0_4).bind fun t191 => (some (a0_0, a0_1, a0_2, a0_3, t191))
theorem laws_toFrame.mono : ∀ a0 a1 a2 a3 a4 k, LeO (laws_toFrame.f k a0 a1 a2 a3 a4) (laws_toFrame.f (k + 1) a0 a1 a2 a3 a4) := by
 intro a0 a1 a2 a3 a4 k
 unfold laws_toFrame.f
 repeat' first
   | (with_reducible exact laws_toCompS.mono _ _)
   | (with_reducible exact LeO.refl _)
   | (with_reducible exact LeO.none _)
   | (with_reducible refine LeO.ite ?_ ?_)
   | (with_reducible refine LeO.bind ?_ (fun _ => ?_))
   | exact laws_toCompS.mono _ _
   | exact LeO.none _
   | refine LeO.ite ?_ ?_
   | refine LeO.bind ?_ (fun _ => ?_)
set_option maxHeartbeats 8000000 in
set_option maxRecDepth 100000 in
theorem laws_toFrame.calls (k : Nat) (a0_0 : Int) (a0_1 : Int) (a0_2 : Int) (a0_3 : Int) (A0_4 : Option Addr) (c0_4 : Nat) (l0_4 : List (S130)) (r1 : Int) (r2 : Int) (r3 : Int) (r4 : Int) (r5 : List (S42)) (w : World) (hr0_4 : Kd.C k130 w A0_4 l0_4.length l0_4) (hc0_4 : l0_4.length ≤ c0_4) (h : laws_toFrame.f k a0_0 a0_1 a0_2 a0_3 l0_4 = some (r1, r2, r3, r4, r5)) :
  Calls Try.prog 41 #[.agg #[.int .i64 a0_0, .int .i64 a0_1, .int .i64 a0_2, .int .i64 a0_3, .slice A0_4 l0_4.length c0_4]] w fun e w' => ∃ v4_ : Value, e = .returned (.agg #[.int .i64 r1, .int .i64 r2, .int .i64 r3, .int .i64 r4, v4_]) ∧ Kd.R k42 42 w' w.heap.size (fun _ => True) v4_ r5 ∧ Below w.heap.size w w' := by
 have hu55 := Try.underlying55
 have hu45 := Try.underlying45
 have HR0_4 := aM hr0_4
 have HC0_4 := aM hc0_4
 clear hr0_4 hc0_4
 have HB := aM (Below.refl w.heap.size w)
 have H : ((laws_toCompS.f k l0_4).bind fun t191 => (some (a0_0, a0_1, a0_2, a0_3, t191))) = some (r1, r2, r3, r4, r5) := h
 clear h
 replace H := oB H
 obtain ⟨t191, A20, H⟩ := H
 replace H : (some (a0_0, a0_1, a0_2, a0_3, t191)) = some (r1, r2, r3, r4, r5) := H
 have A2 := aM A20
 clear A20
 simp only [Option.some.injEq, Prod.mk.injEq] at H
 obtain ⟨rfl, rfl, rfl, rfl, rfl⟩ := H
 go_enter Try.func41, Try.ntmps41
 go_wp2_with (first | ((with_reducible refine gate_dst (N := 1) rfl ?_); refine box_event ?hg (N := 1) ?hd (cs := #[.int .i64 a0_0, .int .i64 a0_1, .int .i64 a0_2, .int .i64 a0_3, .slice A0_4 l0_4.length c0_4]) (t := 55) ?hr ?_; (case hd => rfl); (case hg => rfl); (case hr => first | (go_simp; done) | (go_simp; rfl)); intro gb188 hg w3 hbox hb; have n0_ := aM (below_step (by repeat (first | (with_reducible first | exact HB.out | apply bA | apply bN | apply b1) | exact HB.out)) hb); have n1_ := aM (hbox); have n2_ := aM ((by rw [hg]; exact (below_size (by repeat (first | (with_reducible first | exact HB.out | apply bA | apply bN | apply b1) | exact HB.out))) : w.heap.size ≤ gb188)); have n3_ := aM ((by rw [hg]; exact (below_size (by repeat (first | (with_reducible first | exact HB.out | apply bA | apply bN | apply b1) | exact HB.out))) : w.heap.size ≤ gb188)); clear HB; have HB := n0_; have BK188 := n1_; have GW188 := n2_; have GE188 := n3_; clear n0_ n1_ n2_ n3_; clear hb hbox hg) | ((with_reducible refine gate_dst (N := 2) rfl ?_); refine box_event ?hg (N := 2) ?hd (cs := #[.int .i64 0, .int .i64 0, .int .i64 0, .int .i64 0, .slice none 0 0]) (t := 45) ?hr ?_; (case hd => rfl); (case hg => rfl); (case hr => first | (go_simp; done) | (go_simp; rfl)); intro gb189 hg w4 hbox hb; have n0_ := aM (blk_below (g := gb188) (o := .cells #[.int .i64 a0_0, .int .i64 a0_1, .int .i64 a0_2, .int .i64 a0_3, .slice A0_4 l0_4.length c0_4] 55 (0, 0)) (by (with_reducible repeat (first | apply kN | apply kD | apply kA)); exact BK188.out) hb); have n1_ := aM (below_step (by repeat (first | (with_reducible first | exact HB.out | apply bA | apply bN | apply b1 | refine bS ?_ GE188.out) | exact HB.out)) hb); have n2_ := aM (hbox); have n3_ := aM ((by rw [hg]; exact (below_size (by repeat (first | (with_reducible first | exact HB.out | apply bA | apply bN | apply b1 | refine bS ?_ GE188.out) | exact HB.out))) : w.heap.size ≤ gb189)); have n4_ := aM ((by rw [hg]; exact (below_size (by repeat (first | (with_reducible first | exact HB.out | apply bA | apply bN | apply b1 | refine bS ?_ GE188.out) | exact HB.out))) : w.heap.size ≤ gb189)); have n5_ := aM ((by rw [hg]; exact Nat.ne_of_lt (blk_lt (g := gb188) (o := .cells #[.int .i64 a0_0, .int .i64 a0_1, .int .i64 a0_2, .int .i64 a0_3, .slice A0_4 l0_4.length c0_4] 55 (0, 0)) (by (with_reducible repeat (first | apply kN | apply kD | apply kA)); exact BK188.out)) : gb188 ≠ gb189)); have n6_ := aM ((by rw [hg]; exact Nat.ne_of_gt (blk_lt (g := gb188) (o := .cells #[.int .i64 a0_0, .int .i64 a0_1, .int .i64 a0_2, .int .i64 a0_3, .slice A0_4 l0_4.length c0_4] 55 (0, 0)) (by (with_reducible repeat (first | apply kN | apply kD | apply kA)); exact BK188.out)) : gb189 ≠ gb188)); clear BK188; clear HB; have BK188 := n0_; have HB := n1_; have BK189 := n2_; have GW189 := n3_; have GE189 := n4_; have NB188_189 := n5_; have NB189_188 := n6_; clear n0_ n1_ n2_ n3_ n4_ n5_ n6_; clear hb hbox hg) | ((with_reducible refine gate_dst (N := 3) rfl ?_); refine box_event ?hg (N := 3) ?hd (cs := #[.int .i64 0, .int .i64 0, .int .i64 0, .int .i64 0, .slice none 0 0]) (t := 45) ?hr ?_; (case hd => rfl); (case hg => rfl); (case hr => first | (go_simp; done) | (go_simp; rfl)); intro gb190 hg w5 hbox hb; have n0_ := aM (blk_below (g := gb188) (o := .cells #[.int .i64 a0_0, .int .i64 a0_1, .int .i64 a0_2, .int .i64 a0_3, .slice A0_4 l0_4.length c0_4] 55 (0, 0)) (by (with_reducible repeat (first | apply kN | apply kD | apply kA)); exact BK188.out) hb); have n1_ := aM (blk_below (g := gb189) (o := .cells #[.int .i64 0, .int .i64 0, .int .i64 0, .int .i64 0, .slice none 0 0] 45 (0, 0)) (by (with_reducible repeat (first | apply kN | apply kD | apply kA)); exact BK189.out) hb); have n2_ := aM (below_step (by repeat (first | (with_reducible first | exact HB.out | apply bA | apply bN | apply b1 | refine bS ?_ GE188.out | refine bS ?_ GE189.out) | exact HB.out)) hb); have n3_ := aM (hbox); have n4_ := aM ((by rw [hg]; exact (below_size (by repeat (first | (with_reducible first | exact HB.out | apply bA | apply bN | apply b1 | refine bS ?_ GE188.out | refine bS ?_ GE189.out) | exact HB.out))) : w.heap.size ≤ gb190)); have n5_ := aM ((by rw [hg]; exact (below_size (by repeat (first | (with_reducible first | exact HB.out | apply bA | apply bN | apply b1 | refine bS ?_ GE188.out | refine bS ?_ GE189.out) | exact HB.out))) : w.heap.size ≤ gb190)); have n6_ := aM ((by rw [hg]; exact Nat.ne_of_lt (blk_lt (g := gb188) (o := .cells #[.int .i64 a0_0, .int .i64 a0_1, .int .i64 a0_2, .int .i64 a0_3, .slice A0_4 l0_4.length c0_4] 55 (0, 0)) (by (with_reducible repeat (first | apply kN | apply kD | apply kA)); exact BK188.out)) : gb188 ≠ gb190)); have n7_ := aM ((by rw [hg]; exact Nat.ne_of_gt (blk_lt (g := gb188) (o := .cells #[.int .i64 a0_0, .int .i64 a0_1, .int .i64 a0_2, .int .i64 a0_3, .slice A0_4 l0_4.length c0_4] 55 (0, 0)) (by (with_reducible repeat (first | apply kN | apply kD | apply kA)); exact BK188.out)) : gb190 ≠ gb188)); have n8_ := aM ((by rw [hg]; exact Nat.ne_of_lt (blk_lt (g := gb189) (o := .cells #[.int .i64 0, .int .i64 0, .int .i64 0, .int .i64 0, .slice none 0 0] 45 (0, 0)) (by (with_reducible repeat (first | apply kN | apply kD | apply kA)); exact BK189.out)) : gb189 ≠ gb190)); have n9_ := aM ((by rw [hg]; exact Nat.ne_of_gt (blk_lt (g := gb189) (o := .cells #[.int .i64 0, .int .i64 0, .int .i64 0, .int .i64 0, .slice none 0 0] 45 (0, 0)) (by (with_reducible repeat (first | apply kN | apply kD | apply kA)); exact BK189.out)) : gb190 ≠ gb189)); clear BK188; clear BK189; clear HB; have BK188 := n0_; have BK189 := n1_; have HB := n2_; have BK190 := n3_; have GW190 := n4_; have GE190 := n5_; have NB188_190 := n6_; have NB190_188 := n7_; have NB189_190 := n8_; have NB190_189 := n9_; clear n0_ n1_ n2_ n3_ n4_ n5_ n6_ n7_ n8_ n9_; clear hb hbox hg; have hnb6 := NB188_189.out; have hnc6 := NB189_188.out; have hnb7 := NB188_190.out; have hnc7 := NB190_188.out; have hcz8_0 : w5.cell? ⟨gb188, 0, none⟩ = some (.int .i64 a0_0) := (kC BK188.out 0).trans rfl; have hcz8_1 : w5.cell? ⟨gb188, 1, none⟩ = some (.int .i64 a0_1) := (kC BK188.out 1).trans rfl; have hcz8_2 : w5.cell? ⟨gb188, 2, none⟩ = some (.int .i64 a0_2) := (kC BK188.out 2).trans rfl; have hcz8_3 : w5.cell? ⟨gb188, 3, none⟩ = some (.int .i64 a0_3) := (kC BK188.out 3).trans rfl; have hcz8_4 : w5.cell? ⟨gb188, 4, none⟩ = some (.slice A0_4 l0_4.length c0_4) := (kC BK188.out 4).trans rfl; have hfz8_0 := blk_frozen BK188.out 0; have hfz8_1 := blk_frozen BK188.out 1; have hfz8_2 := blk_frozen BK188.out 2; have hfz8_3 := blk_frozen BK188.out 3; have hfz8_4 := blk_frozen BK188.out 4; have hnb9 := NB190_189.out; have hnc9 := NB189_190.out; have hcz10_0 : w5.cell? ⟨gb190, 0, none⟩ = some (.int .i64 0) := (kC BK190.out 0).trans rfl; have hcz10_1 : w5.cell? ⟨gb190, 1, none⟩ = some (.int .i64 0) := (kC BK190.out 1).trans rfl; have hcz10_2 : w5.cell? ⟨gb190, 2, none⟩ = some (.int .i64 0) := (kC BK190.out 2).trans rfl; have hcz10_3 : w5.cell? ⟨gb190, 3, none⟩ = some (.int .i64 0) := (kC BK190.out 3).trans rfl; have hcz10_4 : w5.cell? ⟨gb190, 4, none⟩ = some (.slice none 0 0) := (kC BK190.out 4).trans rfl; have hfz10_0 := blk_frozen BK190.out 0; have hfz10_1 := blk_frozen BK190.out 1; have hfz10_2 := blk_frozen BK190.out 2; have hfz10_3 := blk_frozen BK190.out 3; have hfz10_4 := blk_frozen BK190.out 4) | ((with_reducible refine gate_callee (f := 91) rfl ?_); refine goesL_ (some 18) rfl rfl Try.func91 (by kernel_rfl) rfl #[.slice A0_4 l0_4.length c0_4] rfl (by (try simp only [List.map_toArray, List.map_cons, List.map_nil]); first | done | rfl | (simp only [List.length_drop, List.length_take]; rfl)) ?_; (with_reducible refine (laws_toCompS.calls k _ _ l0_4 t191 _ ?side1 ?side2 A2.out).mono ?_); (case side1 => exact Kd.C_below HR0_4.out (by repeat (first | (with_reducible first | exact HB.out | apply bA | apply bN | apply b1 | refine bS ?_ GE188.out | refine bS ?_ GE189.out | refine bS ?_ GE190.out) | exact HB.out))); (case side2 => exact HC0_4.out); rintro e w11 ⟨v192, rfl, ho0, hb⟩; refine ⟨_, rfl, ?_⟩; have n0_ := aM (Kd.R_lower ho0 (below_size (by repeat (first | (with_reducible first | exact HB.out | apply bA | apply bN | apply b1 | refine bS ?_ GE188.out | refine bS ?_ GE189.out | refine bS ?_ GE190.out) | exact HB.out)))); have n1_ := aM (blk_below (g := gb188) (o := .cells #[.int .i64 a0_0, .int .i64 a0_1, .int .i64 a0_2, .int .i64 a0_3, .slice A0_4 l0_4.length c0_4] 55 (0, 0)) (by (with_reducible repeat (first | apply kN | apply kD | apply kA)); refine blk_far ?_ NB188_190.out _; (with_reducible repeat (first | apply kN | apply kD | apply kA)); refine blk_far ?_ NB188_190.out _; (with_reducible repeat (first | apply kN | apply kD | apply kA)); refine blk_far ?_ NB188_190.out _; (with_reducible repeat (first | apply kN | apply kD | apply kA)); refine blk_far ?_ NB188_190.out _; (with_reducible repeat (first | apply kN | apply kD | apply kA)); exact BK188.out) hb); have n2_ := aM (blk_below (g := gb189) (o := .cells #[.int .i64 0, .int .i64 0, .int .i64 0, .int .i64 0, .slice none 0 0] 45 (0, 0)) (by (with_reducible repeat (first | apply kN | apply kD | apply kA)); refine blk_far ?_ NB189_190.out _; (with_reducible repeat (first | apply kN | apply kD | apply kA)); refine blk_far ?_ NB189_190.out _; (with_reducible repeat (first | apply kN | apply kD | apply kA)); refine blk_far ?_ NB189_190.out _; (with_reducible repeat (first | apply kN | apply kD | apply kA)); refine blk_far ?_ NB189_190.out _; (with_reducible repeat (first | apply kN | apply kD | apply kA)); exact BK189.out) hb); have n3_ := aM (blk_below (g := gb190) (o := .cells #[.int .i64 a0_0, .int .i64 a0_1, .int .i64 a0_2, .int .i64 a0_3, .slice none 0 0] 45 (0, 0)) (by (with_reducible repeat (first | apply kN | apply kD | apply kA)); refine blk_put (cs := #[.int .i64 a0_0, .int .i64 a0_1, .int .i64 a0_2, .int .i64 0, .slice none 0 0]) ?_ 3 _ rfl; (with_reducible repeat (first | apply kN | apply kD | apply kA)); refine blk_put (cs := #[.int .i64 a0_0, .int .i64 a0_1, .int .i64 0, .int .i64 0, .slice none 0 0]) ?_ 2 _ rfl; (with_reducible repeat (first | apply kN | apply kD | apply kA)); refine blk_put (cs := #[.int .i64 a0_0, .int .i64 0, .int .i64 0, .int .i64 0, .slice none 0 0]) ?_ 1 _ rfl; (with_reducible repeat (first | apply kN | apply kD | apply kA)); refine blk_put (cs := #[.int .i64 0, .int .i64 0, .int .i64 0, .int .i64 0, .slice none 0 0]) ?_ 0 _ rfl; (with_reducible repeat (first | apply kN | apply kD | apply kA)); exact BK190.out) hb); have n4_ := aM (below_step (by repeat (first | (with_reducible first | exact HB.out | apply bA | apply bN | apply b1 | refine bS ?_ GE188.out | refine bS ?_ GE189.out | refine bS ?_ GE190.out) | exact HB.out)) hb); clear BK188; clear BK189; clear BK190; clear HB; have HO193 := n0_; have BK188 := n1_; have BK189 := n2_; have BK190 := n3_; have HB := n4_; clear n0_ n1_ n2_ n3_ n4_; (try clear hb); (try clear hb2); (try clear hk); (try clear hi); (try clear ho0); obtain ⟨Ao12, co12, eo12⟩ := Kd.R_slice HO193.out; subst eo12; have hcz13_0 : w11.cell? ⟨gb190, 0, none⟩ = some (.int .i64 a0_0) := (kC BK190.out 0).trans rfl; have hcz13_1 : w11.cell? ⟨gb190, 1, none⟩ = some (.int .i64 a0_1) := (kC BK190.out 1).trans rfl; have hcz13_2 : w11.cell? ⟨gb190, 2, none⟩ = some (.int .i64 a0_2) := (kC BK190.out 2).trans rfl; have hcz13_3 : w11.cell? ⟨gb190, 3, none⟩ = some (.int .i64 a0_3) := (kC BK190.out 3).trans rfl; have hcz13_4 : w11.cell? ⟨gb190, 4, none⟩ = some (.slice none 0 0) := (kC BK190.out 4).trans rfl; have hfz13_0 := blk_frozen BK190.out 0; have hfz13_1 := blk_frozen BK190.out 1; have hfz13_2 := blk_frozen BK190.out 2; have hfz13_3 := blk_frozen BK190.out 3; have hfz13_4 := blk_frozen BK190.out 4; have hcz14_0 : w11.cell? ⟨gb189, 0, none⟩ = some (.int .i64 0) := (kC BK189.out 0).trans rfl; have hcz14_1 : w11.cell? ⟨gb189, 1, none⟩ = some (.int .i64 0) := (kC BK189.out 1).trans rfl; have hcz14_2 : w11.cell? ⟨gb189, 2, none⟩ = some (.int .i64 0) := (kC BK189.out 2).trans rfl; have hcz14_3 : w11.cell? ⟨gb189, 3, none⟩ = some (.int .i64 0) := (kC BK189.out 3).trans rfl; have hcz14_4 : w11.cell? ⟨gb189, 4, none⟩ = some (.slice none 0 0) := (kC BK189.out 4).trans rfl; have hfz14_0 := blk_frozen BK189.out 0; have hfz14_1 := blk_frozen BK189.out 1; have hfz14_2 := blk_frozen BK189.out 2; have hfz14_3 := blk_frozen BK189.out 3; have hfz14_4 := blk_frozen BK189.out 4))
 refine bodyPost_ret (results_cell_row rfl _ _ gb189 45 #[.int .i64 a0_0, .int .i64 a0_1, .int .i64 a0_2, .int .i64 a0_3, .slice Ao12 t191.length co12] (0, 0) _ rfl (by (with_reducible repeat (first | apply kN | apply kD | apply kA)); refine blk_put (cs := #[.int .i64 a0_0, .int .i64 a0_1, .int .i64 a0_2, .int .i64 a0_3, .slice none 0 0]) ?_ 4 _ rfl; (with_reducible repeat (first | apply kN | apply kD | apply kA)); refine blk_put (cs := #[.int .i64 a0_0, .int .i64 a0_1, .int .i64 a0_2, .int .i64 0, .slice none 0 0]) ?_ 3 _ rfl; (with_reducible repeat (first | apply kN | apply kD | apply kA)); refine blk_put (cs := #[.int .i64 a0_0, .int .i64 a0_1, .int .i64 0, .int .i64 0, .slice none 0 0]) ?_ 2 _ rfl; (with_reducible repeat (first | apply kN | apply kD | apply kA)); refine blk_put (cs := #[.int .i64 a0_0, .int .i64 0, .int .i64 0, .int .i64 0, .slice none 0 0]) ?_ 1 _ rfl; (with_reducible repeat (first | apply kN | apply kD | apply kA)); refine blk_put (cs := #[.int .i64 0, .int .i64 0, .int .i64 0, .int .i64 0, .slice none 0 0]) ?_ 0 _ rfl; (with_reducible repeat (first | apply kN | apply kD | apply kA)); refine blk_far ?_ NB189_190.out _; (with_reducible repeat (first | apply kN | apply kD | apply kA)); exact BK189.out) Try.underlying45 rfl (by kernel_rfl)) rfl ?_
 exact ⟨_, by first | rfl | (simp [*, errW_none, errW_some] <;> rfl), by (with_reducible repeat (first | apply Kd.R_alloc | apply Kd.R_drewN | apply Kd.R_drew)); exact Kd.R_mono (Kd.R_far (p := ⟨gb189, 4, none⟩) (Kd.R_far (p := ⟨gb189, 3, none⟩) (Kd.R_far (p := ⟨gb189, 2, none⟩) (Kd.R_far (p := ⟨gb189, 1, none⟩) (Kd.R_far (p := ⟨gb189, 0, none⟩) (Kd.R_far (p := ⟨gb190, 4, none⟩) (Kd.R_types (Kd.R_types HO193.out BK190.out (by decide)) BK189.out (by decide)) (fun _ hk => hk.1.2) (.slice Ao12 t191.length co12)) (fun _ hk => hk.2) (.int .i64 a0_0)) (fun _ hk => hk.2) (.int .i64 a0_1)) (fun _ hk => hk.2) (.int .i64 a0_2)) (fun _ hk => hk.2) (.int .i64 a0_3)) (fun _ hk => hk.2) (.slice Ao12 t191.length co12)) (fun _ hk => trivial), by repeat (first | (with_reducible first | exact HB.out | apply bA | apply bN | apply b1 | refine bS ?_ GE188.out | refine bS ?_ GE189.out | refine bS ?_ GE190.out) | exact HB.out)⟩

theorem toFrame_f (p w h r : Int) (l : List S130) (hl : l.length ≤ 1048576) : Ev (fun k => laws_toFrame.f k p w h r l) (p, w, h, r, l.map convC) := by
  unfold laws_toFrame.f
  exact evBind (toCompS_f l hl) (Ev.now _)

/-! ### laws_eqComp: function 127 -/
def laws_eqComp.f (a0_0 : Int) (a0_1 : Int) (a0_2 : Int) (a0_3 : Int) (a1_0 : Int) (a1_1 : Int) (a1_2 : Int) (a1_3 : Int) : Option (Bool) := if a0_0 = a1_0 then (if a0_1 = a1_1 then (if a0_2 = a1_2 then (if a0_3 = a1_3 then (some true) else (some false)) else (some false)) else (some false)) else (some false)
set_option maxHeartbeats 8000000 in
set_option maxRecDepth 100000 in
theorem laws_eqComp.calls (a0_0 : Int) (a0_1 : Int) (a0_2 : Int) (a0_3 : Int) (a1_0 : Int) (a1_1 : Int) (a1_2 : Int) (a1_3 : Int) (r : Bool) (w : World) (h : laws_eqComp.f a0_0 a0_1 a0_2 a0_3 a1_0 a1_1 a1_2 a1_3 = some r) :
  Calls Try.prog 127 #[.agg #[.int .i64 a0_0, .int .i64 a0_1, .int .i64 a0_2, .int .i64 a0_3], .agg #[.int .i64 a1_0, .int .i64 a1_1, .int .i64 a1_2, .int .i64 a1_3]] w fun e w' => e = .returned (.bool r) ∧ Below w.heap.size w w' := by
 have hu42 := Try.underlying42
 have HB := aM (Below.refl w.heap.size w)
 have H : (if a0_0 = a1_0 then (if a0_1 = a1_1 then (if a0_2 = a1_2 then (if a0_3 = a1_3 then (some true) else (some false)) else (some false)) else (some false)) else (some false)) = some r := h
 clear h
 by_cases c3 : a0_0 = a1_0
 ·rw [if_pos c3] at H
  have c3b0 : (a0_0 == a1_0) = true := beq_iff_eq.mpr c3
  have c3b1 : (a0_0 != a1_0) = false := bne_eq_false_iff_eq.mpr c3
  clear c3
  by_cases c4 : a0_1 = a1_1
  ·rw [if_pos c4] at H
   have c4b0 : (a0_1 == a1_1) = true := beq_iff_eq.mpr c4
   have c4b1 : (a0_1 != a1_1) = false := bne_eq_false_iff_eq.mpr c4
   clear c4
   by_cases c5 : a0_2 = a1_2
   ·rw [if_pos c5] at H
    have c5b0 : (a0_2 == a1_2) = true := beq_iff_eq.mpr c5
    have c5b1 : (a0_2 != a1_2) = false := bne_eq_false_iff_eq.mpr c5
    clear c5
    by_cases c6 : a0_3 = a1_3
    ·rw [if_pos c6] at H
     have c6b0 : (a0_3 == a1_3) = true := beq_iff_eq.mpr c6
     have c6b1 : (a0_3 != a1_3) = false := bne_eq_false_iff_eq.mpr c6
     clear c6
     obtain rfl := Option.some.inj H
     go_enter Try.func127, Try.ntmps127
     go_wp2_with (first | ((with_reducible refine gate_dst (N := 2) rfl ?_); refine box_event ?hg (N := 2) ?hd (cs := #[.int .i64 a0_0, .int .i64 a0_1, .int .i64 a0_2, .int .i64 a0_3]) (t := 42) ?hr ?_; (case hd => rfl); (case hg => rfl); (case hr => first | (go_simp; done) | (go_simp; rfl)); intro gb194 hg w7 hbox hb; have n0_ := aM (below_step (by repeat (first | (with_reducible first | exact HB.out | apply bA | apply bN | apply b1) | exact HB.out)) hb); have n1_ := aM (hbox); have n2_ := aM ((by rw [hg]; exact (below_size (by repeat (first | (with_reducible first | exact HB.out | apply bA | apply bN | apply b1) | exact HB.out))) : w.heap.size ≤ gb194)); have n3_ := aM ((by rw [hg]; exact (below_size (by repeat (first | (with_reducible first | exact HB.out | apply bA | apply bN | apply b1) | exact HB.out))) : w.heap.size ≤ gb194)); clear HB; have HB := n0_; have BK194 := n1_; have GW194 := n2_; have GE194 := n3_; clear n0_ n1_ n2_ n3_; clear hb hbox hg) | ((with_reducible refine gate_dst (N := 3) rfl ?_); refine box_event ?hg (N := 3) ?hd (cs := #[.int .i64 a1_0, .int .i64 a1_1, .int .i64 a1_2, .int .i64 a1_3]) (t := 42) ?hr ?_; (case hd => rfl); (case hg => rfl); (case hr => first | (go_simp; done) | (go_simp; rfl)); intro gb195 hg w8 hbox hb; have n0_ := aM (blk_below (g := gb194) (o := .cells #[.int .i64 a0_0, .int .i64 a0_1, .int .i64 a0_2, .int .i64 a0_3] 42 (0, 0)) (by (with_reducible repeat (first | apply kN | apply kD | apply kA)); exact BK194.out) hb); have n1_ := aM (below_step (by repeat (first | (with_reducible first | exact HB.out | apply bA | apply bN | apply b1 | refine bS ?_ GE194.out) | exact HB.out)) hb); have n2_ := aM (hbox); have n3_ := aM ((by rw [hg]; exact (below_size (by repeat (first | (with_reducible first | exact HB.out | apply bA | apply bN | apply b1 | refine bS ?_ GE194.out) | exact HB.out))) : w.heap.size ≤ gb195)); have n4_ := aM ((by rw [hg]; exact (below_size (by repeat (first | (with_reducible first | exact HB.out | apply bA | apply bN | apply b1 | refine bS ?_ GE194.out) | exact HB.out))) : w.heap.size ≤ gb195)); have n5_ := aM ((by rw [hg]; exact Nat.ne_of_lt (blk_lt (g := gb194) (o := .cells #[.int .i64 a0_0, .int .i64 a0_1, .int .i64 a0_2, .int .i64 a0_3] 42 (0, 0)) (by (with_reducible repeat (first | apply kN | apply kD | apply kA)); exact BK194.out)) : gb194 ≠ gb195)); have n6_ := aM ((by rw [hg]; exact Nat.ne_of_gt (blk_lt (g := gb194) (o := .cells #[.int .i64 a0_0, .int .i64 a0_1, .int .i64 a0_2, .int .i64 a0_3] 42 (0, 0)) (by (with_reducible repeat (first | apply kN | apply kD | apply kA)); exact BK194.out)) : gb195 ≠ gb194)); clear BK194; clear HB; have BK194 := n0_; have HB := n1_; have BK195 := n2_; have GW195 := n3_; have GE195 := n4_; have NB194_195 := n5_; have NB195_194 := n6_; clear n0_ n1_ n2_ n3_ n4_ n5_ n6_; clear hb hbox hg; have hnb9 := NB194_195.out; have hnc9 := NB195_194.out; have hcz10_0 : w8.cell? ⟨gb194, 0, none⟩ = some (.int .i64 a0_0) := (kC BK194.out 0).trans rfl; have hcz10_1 : w8.cell? ⟨gb194, 1, none⟩ = some (.int .i64 a0_1) := (kC BK194.out 1).trans rfl; have hcz10_2 : w8.cell? ⟨gb194, 2, none⟩ = some (.int .i64 a0_2) := (kC BK194.out 2).trans rfl; have hcz10_3 : w8.cell? ⟨gb194, 3, none⟩ = some (.int .i64 a0_3) := (kC BK194.out 3).trans rfl; have hfz10_0 := blk_frozen BK194.out 0; have hfz10_1 := blk_frozen BK194.out 1; have hfz10_2 := blk_frozen BK194.out 2; have hfz10_3 := blk_frozen BK194.out 3; have hcz11_0 : w8.cell? ⟨gb195, 0, none⟩ = some (.int .i64 a1_0) := (kC BK195.out 0).trans rfl; have hcz11_1 : w8.cell? ⟨gb195, 1, none⟩ = some (.int .i64 a1_1) := (kC BK195.out 1).trans rfl; have hcz11_2 : w8.cell? ⟨gb195, 2, none⟩ = some (.int .i64 a1_2) := (kC BK195.out 2).trans rfl; have hcz11_3 : w8.cell? ⟨gb195, 3, none⟩ = some (.int .i64 a1_3) := (kC BK195.out 3).trans rfl; have hfz11_0 := blk_frozen BK195.out 0; have hfz11_1 := blk_frozen BK195.out 1; have hfz11_2 := blk_frozen BK195.out 2; have hfz11_3 := blk_frozen BK195.out 3))
     go_ret
     exact ⟨by first | rfl | (simp [*, errW_none, errW_some] <;> rfl), by repeat (first | (with_reducible first | exact HB.out | apply bA | apply bN | apply b1 | refine bS ?_ GE194.out | refine bS ?_ GE195.out) | exact HB.out)⟩
    ·rw [if_neg c6] at H
     have c6b0 : (a0_3 == a1_3) = false := beq_eq_false_iff_ne.mpr c6
     have c6b1 : (a0_3 != a1_3) = true := bne_iff_ne.mpr c6
     obtain rfl := Option.some.inj H
     go_enter Try.func127, Try.ntmps127
     go_wp2_with (first | ((with_reducible refine gate_dst (N := 2) rfl ?_); refine box_event ?hg (N := 2) ?hd (cs := #[.int .i64 a0_0, .int .i64 a0_1, .int .i64 a0_2, .int .i64 a0_3]) (t := 42) ?hr ?_; (case hd => rfl); (case hg => rfl); (case hr => first | (go_simp; done) | (go_simp; rfl)); intro gb194 hg w12 hbox hb; have n0_ := aM (below_step (by repeat (first | (with_reducible first | exact HB.out | apply bA | apply bN | apply b1) | exact HB.out)) hb); have n1_ := aM (hbox); have n2_ := aM ((by rw [hg]; exact (below_size (by repeat (first | (with_reducible first | exact HB.out | apply bA | apply bN | apply b1) | exact HB.out))) : w.heap.size ≤ gb194)); have n3_ := aM ((by rw [hg]; exact (below_size (by repeat (first | (with_reducible first | exact HB.out | apply bA | apply bN | apply b1) | exact HB.out))) : w.heap.size ≤ gb194)); clear HB; have HB := n0_; have BK194 := n1_; have GW194 := n2_; have GE194 := n3_; clear n0_ n1_ n2_ n3_; clear hb hbox hg) | ((with_reducible refine gate_dst (N := 3) rfl ?_); refine box_event ?hg (N := 3) ?hd (cs := #[.int .i64 a1_0, .int .i64 a1_1, .int .i64 a1_2, .int .i64 a1_3]) (t := 42) ?hr ?_; (case hd => rfl); (case hg => rfl); (case hr => first | (go_simp; done) | (go_simp; rfl)); intro gb195 hg w13 hbox hb; have n0_ := aM (blk_below (g := gb194) (o := .cells #[.int .i64 a0_0, .int .i64 a0_1, .int .i64 a0_2, .int .i64 a0_3] 42 (0, 0)) (by (with_reducible repeat (first | apply kN | apply kD | apply kA)); exact BK194.out) hb); have n1_ := aM (below_step (by repeat (first | (with_reducible first | exact HB.out | apply bA | apply bN | apply b1 | refine bS ?_ GE194.out) | exact HB.out)) hb); have n2_ := aM (hbox); have n3_ := aM ((by rw [hg]; exact (below_size (by repeat (first | (with_reducible first | exact HB.out | apply bA | apply bN | apply b1 | refine bS ?_ GE194.out) | exact HB.out))) : w.heap.size ≤ gb195)); have n4_ := aM ((by rw [hg]; exact (below_size (by repeat (first | (with_reducible first | exact HB.out | apply bA | apply bN | apply b1 | refine bS ?_ GE194.out) | exact HB.out))) : w.heap.size ≤ gb195)); have n5_ := aM ((by rw [hg]; exact Nat.ne_of_lt (blk_lt (g := gb194) (o := .cells #[.int .i64 a0_0, .int .i64 a0_1, .int .i64 a0_2, .int .i64 a0_3] 42 (0, 0)) (by (with_reducible repeat (first | apply kN | apply kD | apply kA)); exact BK194.out)) : gb194 ≠ gb195)); have n6_ := aM ((by rw [hg]; exact Nat.ne_of_gt (blk_lt (g := gb194) (o := .cells #[.int .i64 a0_0, .int .i64 a0_1, .int .i64 a0_2, .int .i64 a0_3] 42 (0, 0)) (by (with_reducible repeat (first | apply kN | apply kD | apply kA)); exact BK194.out)) : gb195 ≠ gb194)); clear BK194; clear HB; have BK194 := n0_; have HB := n1_; have BK195 := n2_; have GW195 := n3_; have GE195 := n4_; have NB194_195 := n5_; have NB195_194 := n6_; clear n0_ n1_ n2_ n3_ n4_ n5_ n6_; clear hb hbox hg; have hnb14 := NB194_195.out; have hnc14 := NB195_194.out; have hcz15_0 : w13.cell? ⟨gb194, 0, none⟩ = some (.int .i64 a0_0) := (kC BK194.out 0).trans rfl; have hcz15_1 : w13.cell? ⟨gb194, 1, none⟩ = some (.int .i64 a0_1) := (kC BK194.out 1).trans rfl; have hcz15_2 : w13.cell? ⟨gb194, 2, none⟩ = some (.int .i64 a0_2) := (kC BK194.out 2).trans rfl; have hcz15_3 : w13.cell? ⟨gb194, 3, none⟩ = some (.int .i64 a0_3) := (kC BK194.out 3).trans rfl; have hfz15_0 := blk_frozen BK194.out 0; have hfz15_1 := blk_frozen BK194.out 1; have hfz15_2 := blk_frozen BK194.out 2; have hfz15_3 := blk_frozen BK194.out 3; have hcz16_0 : w13.cell? ⟨gb195, 0, none⟩ = some (.int .i64 a1_0) := (kC BK195.out 0).trans rfl; have hcz16_1 : w13.cell? ⟨gb195, 1, none⟩ = some (.int .i64 a1_1) := (kC BK195.out 1).trans rfl; have hcz16_2 : w13.cell? ⟨gb195, 2, none⟩ = some (.int .i64 a1_2) := (kC BK195.out 2).trans rfl; have hcz16_3 : w13.cell? ⟨gb195, 3, none⟩ = some (.int .i64 a1_3) := (kC BK195.out 3).trans rfl; have hfz16_0 := blk_frozen BK195.out 0; have hfz16_1 := blk_frozen BK195.out 1; have hfz16_2 := blk_frozen BK195.out 2; have hfz16_3 := blk_frozen BK195.out 3))
     go_ret
     exact ⟨by first | rfl | (simp [*, errW_none, errW_some] <;> rfl), by repeat (first | (with_reducible first | exact HB.out | apply bA | apply bN | apply b1 | refine bS ?_ GE194.out | refine bS ?_ GE195.out) | exact HB.out)⟩
   ·rw [if_neg c5] at H
    have c5b0 : (a0_2 == a1_2) = false := beq_eq_false_iff_ne.mpr c5
    have c5b1 : (a0_2 != a1_2) = true := bne_iff_ne.mpr c5
    obtain rfl := Option.some.inj H
    go_enter Try.func127, Try.ntmps127
    go_wp2_with (first | ((with_reducible refine gate_dst (N := 2) rfl ?_); refine box_event ?hg (N := 2) ?hd (cs := #[.int .i64 a0_0, .int .i64 a0_1, .int .i64 a0_2, .int .i64 a0_3]) (t := 42) ?hr ?_; (case hd => rfl); (case hg => rfl); (case hr => first | (go_simp; done) | (go_simp; rfl)); intro gb194 hg w17 hbox hb; have n0_ := aM (below_step (by repeat (first | (with_reducible first | exact HB.out | apply bA | apply bN | apply b1) | exact HB.out)) hb); have n1_ := aM (hbox); have n2_ := aM ((by rw [hg]; exact (below_size (by repeat (first | (with_reducible first | exact HB.out | apply bA | apply bN | apply b1) | exact HB.out))) : w.heap.size ≤ gb194)); have n3_ := aM ((by rw [hg]; exact (below_size (by repeat (first | (with_reducible first | exact HB.out | apply bA | apply bN | apply b1) | exact HB.out))) : w.heap.size ≤ gb194)); clear HB; have HB := n0_; have BK194 := n1_; have GW194 := n2_; have GE194 := n3_; clear n0_ n1_ n2_ n3_; clear hb hbox hg) | ((with_reducible refine gate_dst (N := 3) rfl ?_); refine box_event ?hg (N := 3) ?hd (cs := #[.int .i64 a1_0, .int .i64 a1_1, .int .i64 a1_2, .int .i64 a1_3]) (t := 42) ?hr ?_; (case hd => rfl); (case hg => rfl); (case hr => first | (go_simp; done) | (go_simp; rfl)); intro gb195 hg w18 hbox hb; have n0_ := aM (blk_below (g := gb194) (o := .cells #[.int .i64 a0_0, .int .i64 a0_1, .int .i64 a0_2, .int .i64 a0_3] 42 (0, 0)) (by (with_reducible repeat (first | apply kN | apply kD | apply kA)); exact BK194.out) hb); have n1_ := aM (below_step (by repeat (first | (with_reducible first | exact HB.out | apply bA | apply bN | apply b1 | refine bS ?_ GE194.out) | exact HB.out)) hb); have n2_ := aM (hbox); have n3_ := aM ((by rw [hg]; exact (below_size (by repeat (first | (with_reducible first | exact HB.out | apply bA | apply bN | apply b1 | refine bS ?_ GE194.out) | exact HB.out))) : w.heap.size ≤ gb195)); have n4_ := aM ((by rw [hg]; exact (below_size (by repeat (first | (with_reducible first | exact HB.out | apply bA | apply bN | apply b1 | refine bS ?_ GE194.out) | exact HB.out))) : w.heap.size ≤ gb195)); have n5_ := aM ((by rw [hg]; exact Nat.ne_of_lt (blk_lt (g := gb194) (o := .cells #[.int .i64 a0_0, .int .i64 a0_1, .int .i64 a0_2, .int .i64 a0_3] 42 (0, 0)) (by (with_reducible repeat (first | apply kN | apply kD | apply kA)); exact BK194.out)) : gb194 ≠ gb195)); have n6_ := aM ((by rw [hg]; exact Nat.ne_of_gt (blk_lt (g := gb194) (o := .cells #[.int .i64 a0_0, .int .i64 a0_1, .int .i64 a0_2, .int .i64 a0_3] 42 (0, 0)) (by (with_reducible repeat (first | apply kN | apply kD | apply kA)); exact BK194.out)) : gb195 ≠ gb194)); clear BK194; clear HB; have BK194 := n0_; have HB := n1_; have BK195 := n2_; have GW195 := n3_; have GE195 := n4_; have NB194_195 := n5_; have NB195_194 := n6_; clear n0_ n1_ n2_ n3_ n4_ n5_ n6_; clear hb hbox hg; have hnb19 := NB194_195.out; have hnc19 := NB195_194.out; have hcz20_0 : w18.cell? ⟨gb194, 0, none⟩ = some (.int .i64 a0_0) := (kC BK194.out 0).trans rfl; have hcz20_1 : w18.cell? ⟨gb194, 1, none⟩ = some (.int .i64 a0_1) := (kC BK194.out 1).trans rfl; have hcz20_2 : w18.cell? ⟨gb194, 2, none⟩ = some (.int .i64 a0_2) := (kC BK194.out 2).trans rfl; have hcz20_3 : w18.cell? ⟨gb194, 3, none⟩ = some (.int .i64 a0_3) := (kC BK194.out 3).trans rfl; have hfz20_0 := blk_frozen BK194.out 0; have hfz20_1 := blk_frozen BK194.out 1; have hfz20_2 := blk_frozen BK194.out 2; have hfz20_3 := blk_frozen BK194.out 3; have hcz21_0 : w18.cell? ⟨gb195, 0, none⟩ = some (.int .i64 a1_0) := (kC BK195.out 0).trans rfl; have hcz21_1 : w18.cell? ⟨gb195, 1, none⟩ = some (.int .i64 a1_1) := (kC BK195.out 1).trans rfl; have hcz21_2 : w18.cell? ⟨gb195, 2, none⟩ = some (.int .i64 a1_2) := (kC BK195.out 2).trans rfl; have hcz21_3 : w18.cell? ⟨gb195, 3, none⟩ = some (.int .i64 a1_3) := (kC BK195.out 3).trans rfl; have hfz21_0 := blk_frozen BK195.out 0; have hfz21_1 := blk_frozen BK195.out 1; have hfz21_2 := blk_frozen BK195.out 2; have hfz21_3 := blk_frozen BK195.out 3))
    go_ret
    exact ⟨by first | rfl | (simp [*, errW_none, errW_some] <;> rfl), by repeat (first | (with_reducible first | exact HB.out | apply bA | apply bN | apply b1 | refine bS ?_ GE194.out | refine bS ?_ GE195.out) | exact HB.out)⟩
  ·rw [if_neg c4] at H
   have c4b0 : (a0_1 == a1_1) = false := beq_eq_false_iff_ne.mpr c4
   have c4b1 : (a0_1 != a1_1) = true := bne_iff_ne.mpr c4
   obtain rfl := Option.some.inj H
   go_enter Try.func127, Try.ntmps127
   go_wp2_with (first | ((with_reducible refine gate_dst (N := 2) rfl ?_); refine box_event ?hg (N := 2) ?hd (cs := #[.int .i64 a0_0, .int .i64 a0_1, .int .i64 a0_2, .int .i64 a0_3]) (t := 42) ?hr ?_; (case hd => rfl); (case hg => rfl); (case hr => first | (go_simp; done) | (go_simp; rfl)); intro gb194 hg w22 hbox hb; have n0_ := aM (below_step (by repeat (first | (with_reducible first | exact HB.out | apply bA | apply bN | apply b1) | exact HB.out)) hb); have n1_ := aM (hbox); have n2_ := aM ((by rw [hg]; exact (below_size (by repeat (first | (with_reducible first | exact HB.out | apply bA | apply bN | apply b1) | exact HB.out))) : w.heap.size ≤ gb194)); have n3_ := aM ((by rw [hg]; exact (below_size (by repeat (first | (with_reducible first | exact HB.out | apply bA | apply bN | apply b1) | exact HB.out))) : w.heap.size ≤ gb194)); clear HB; have HB := n0_; have BK194 := n1_; have GW194 := n2_; have GE194 := n3_; clear n0_ n1_ n2_ n3_; clear hb hbox hg) | ((with_reducible refine gate_dst (N := 3) rfl ?_); refine box_event ?hg (N := 3) ?hd (cs := #[.int .i64 a1_0, .int .i64 a1_1, .int .i64 a1_2, .int .i64 a1_3]) (t := 42) ?hr ?_; (case hd => rfl); (case hg => rfl); (case hr => first | (go_simp; done) | (go_simp; rfl)); intro gb195 hg w23 hbox hb; have n0_ := aM (blk_below (g := gb194) (o := .cells #[.int .i64 a0_0, .int .i64 a0_1, .int .i64 a0_2, .int .i64 a0_3] 42 (0, 0)) (by (with_reducible repeat (first | apply kN | apply kD | apply kA)); exact BK194.out) hb); have n1_ := aM (below_step (by repeat (first | (with_reducible first | exact HB.out | apply bA | apply bN | apply b1 | refine bS ?_ GE194.out) | exact HB.out)) hb); have n2_ := aM (hbox); have n3_ := aM ((by rw [hg]; exact (below_size (by repeat (first | (with_reducible first | exact HB.out | apply bA | apply bN | apply b1 | refine bS ?_ GE194.out) | exact HB.out))) : w.heap.size ≤ gb195)); have n4_ := aM ((by rw [hg]; exact (below_size (by repeat (first | (with_reducible first | exact HB.out | apply bA | apply bN | apply b1 | refine bS ?_ GE194.out) | exact HB.out))) : w.heap.size ≤ gb195)); have n5_ := aM ((by rw [hg]; exact Nat.ne_of_lt (blk_lt (g := gb194) (o := .cells #[.int .i64 a0_0, .int .i64 a0_1, .int .i64 a0_2, .int .i64 a0_3] 42 (0, 0)) (by (with_reducible repeat (first | apply kN | apply kD | apply kA)); exact BK194.out)) : gb194 ≠ gb195)); have n6_ := aM ((by rw [hg]; exact Nat.ne_of_gt (blk_lt (g := gb194) (o := .cells #[.int .i64 a0_0, .int .i64 a0_1, .int .i64 a0_2, .int .i64 a0_3] 42 (0, 0)) (by (with_reducible repeat (first | apply kN | apply kD | apply kA)); exact BK194.out)) : gb195 ≠ gb194)); clear BK194; clear HB; have BK194 := n0_; have HB := n1_; have BK195 := n2_; have GW195 := n3_; have GE195 := n4_; have NB194_195 := n5_; have NB195_194 := n6_; clear n0_ n1_ n2_ n3_ n4_ n5_ n6_; clear hb hbox hg; have hnb24 := NB194_195.out; have hnc24 := NB195_194.out; have hcz25_0 : w23.cell? ⟨gb194, 0, none⟩ = some (.int .i64 a0_0) := (kC BK194.out 0).trans rfl; have hcz25_1 : w23.cell? ⟨gb194, 1, none⟩ = some (.int .i64 a0_1) := (kC BK194.out 1).trans rfl; have hcz25_2 : w23.cell? ⟨gb194, 2, none⟩ = some (.int .i64 a0_2) := (kC BK194.out 2).trans rfl; have hcz25_3 : w23.cell? ⟨gb194, 3, none⟩ = some (.int .i64 a0_3) := (kC BK194.out 3).trans rfl; have hfz25_0 := blk_frozen BK194.out 0; have hfz25_1 := blk_frozen BK194.out 1; have hfz25_2 := blk_frozen BK194.out 2; have hfz25_3 := blk_frozen BK194.out 3; have hcz26_0 : w23.cell? ⟨gb195, 0, none⟩ = some (.int .i64 a1_0) := (kC BK195.out 0).trans rfl; have hcz26_1 : w23.cell? ⟨gb195, 1, none⟩ = some (.int .i64 a1_1) := (kC BK195.out 1).trans rfl; have hcz26_2 : w23.cell? ⟨gb195, 2, none⟩ = some (.int .i64 a1_2) := (kC BK195.out 2).trans rfl; have hcz26_3 : w23.cell? ⟨gb195, 3, none⟩ = some (.int .i64 a1_3) := (kC BK195.out 3).trans rfl; have hfz26_0 := blk_frozen BK195.out 0; have hfz26_1 := blk_frozen BK195.out 1; have hfz26_2 := blk_frozen BK195.out 2; have hfz26_3 := blk_frozen BK195.out 3))
   go_ret
   exact ⟨by first | rfl | (simp [*, errW_none, errW_some] <;> rfl), by repeat (first | (with_reducible first | exact HB.out | apply bA | apply bN | apply b1 | refine bS ?_ GE194.out | refine bS ?_ GE195.out) | exact HB.out)⟩
 ·rw [if_neg c3] at H
  have c3b0 : (a0_0 == a1_0) = false := beq_eq_false_iff_ne.mpr c3
  have c3b1 : (a0_0 != a1_0) = true := bne_iff_ne.mpr c3
  obtain rfl := Option.some.inj H
  go_enter Try.func127, Try.ntmps127
  go_wp2_with (first | ((with_reducible refine gate_dst (N := 2) rfl ?_); refine box_event ?hg (N := 2) ?hd (cs := #[.int .i64 a0_0, .int .i64 a0_1, .int .i64 a0_2, .int .i64 a0_3]) (t := 42) ?hr ?_; (case hd => rfl); (case hg => rfl); (case hr => first | (go_simp; done) | (go_simp; rfl)); intro gb194 hg w27 hbox hb; have n0_ := aM (below_step (by repeat (first | (with_reducible first | exact HB.out | apply bA | apply bN | apply b1) | exact HB.out)) hb); have n1_ := aM (hbox); have n2_ := aM ((by rw [hg]; exact (below_size (by repeat (first | (with_reducible first | exact HB.out | apply bA | apply bN | apply b1) | exact HB.out))) : w.heap.size ≤ gb194)); have n3_ := aM ((by rw [hg]; exact (below_size (by repeat (first | (with_reducible first | exact HB.out | apply bA | apply bN | apply b1) | exact HB.out))) : w.heap.size ≤ gb194)); clear HB; have HB := n0_; have BK194 := n1_; have GW194 := n2_; have GE194 := n3_; clear n0_ n1_ n2_ n3_; clear hb hbox hg) | ((with_reducible refine gate_dst (N := 3) rfl ?_); refine box_event ?hg (N := 3) ?hd (cs := #[.int .i64 a1_0, .int .i64 a1_1, .int .i64 a1_2, .int .i64 a1_3]) (t := 42) ?hr ?_; (case hd => rfl); (case hg => rfl); (case hr => first | (go_simp; done) | (go_simp; rfl)); intro gb195 hg w28 hbox hb; have n0_ := aM (blk_below (g := gb194) (o := .cells #[.int .i64 a0_0, .int .i64 a0_1, .int .i64 a0_2, .int .i64 a0_3] 42 (0, 0)) (by (with_reducible repeat (first | apply kN | apply kD | apply kA)); exact BK194.out) hb); have n1_ := aM (below_step (by repeat (first | (with_reducible first | exact HB.out | apply bA | apply bN | apply b1 | refine bS ?_ GE194.out) | exact HB.out)) hb); have n2_ := aM (hbox); have n3_ := aM ((by rw [hg]; exact (below_size (by repeat (first | (with_reducible first | exact HB.out | apply bA | apply bN | apply b1 | refine bS ?_ GE194.out) | exact HB.out))) : w.heap.size ≤ gb195)); have n4_ := aM ((by rw [hg]; exact (below_size (by repeat (first | (with_reducible first | exact HB.out | apply bA | apply bN | apply b1 | refine bS ?_ GE194.out) | exact HB.out))) : w.heap.size ≤ gb195)); have n5_ := aM ((by rw [hg]; exact Nat.ne_of_lt (blk_lt (g := gb194) (o := .cells #[.int .i64 a0_0, .int .i64 a0_1, .int .i64 a0_2, .int .i64 a0_3] 42 (0, 0)) (by (with_reducible repeat (first | apply kN | apply kD | apply kA)); exact BK194.out)) : gb194 ≠ gb195)); have n6_ := aM ((by rw [hg]; exact Nat.ne_of_gt (blk_lt (g := gb194) (o := .cells #[.int .i64 a0_0, .int .i64 a0_1, .int .i64 a0_2, .int .i64 a0_3] 42 (0, 0)) (by (with_reducible repeat (first | apply kN | apply kD | apply kA)); exact BK194.out)) : gb195 ≠ gb194)); clear BK194; clear HB; have BK194 := n0_; have HB := n1_; have BK195 := n2_; have GW195 := n3_; have GE195 := n4_; have NB194_195 := n5_; have NB195_194 := n6_; clear n0_ n1_ n2_ n3_ n4_ n5_ n6_; clear hb hbox hg; have hnb29 := NB194_195.out; have hnc29 := NB195_194.out; have hcz30_0 : w28.cell? ⟨gb194, 0, none⟩ = some (.int .i64 a0_0) := (kC BK194.out 0).trans rfl; have hcz30_1 : w28.cell? ⟨gb194, 1, none⟩ = some (.int .i64 a0_1) := (kC BK194.out 1).trans rfl; have hcz30_2 : w28.cell? ⟨gb194, 2, none⟩ = some (.int .i64 a0_2) := (kC BK194.out 2).trans rfl; have hcz30_3 : w28.cell? ⟨gb194, 3, none⟩ = some (.int .i64 a0_3) := (kC BK194.out 3).trans rfl; have hfz30_0 := blk_frozen BK194.out 0; have hfz30_1 := blk_frozen BK194.out 1; have hfz30_2 := blk_frozen BK194.out 2; have hfz30_3 := blk_frozen BK194.out 3; have hcz31_0 : w28.cell? ⟨gb195, 0, none⟩ = some (.int .i64 a1_0) := (kC BK195.out 0).trans rfl; have hcz31_1 : w28.cell? ⟨gb195, 1, none⟩ = some (.int .i64 a1_1) := (kC BK195.out 1).trans rfl; have hcz31_2 : w28.cell? ⟨gb195, 2, none⟩ = some (.int .i64 a1_2) := (kC BK195.out 2).trans rfl; have hcz31_3 : w28.cell? ⟨gb195, 3, none⟩ = some (.int .i64 a1_3) := (kC BK195.out 3).trans rfl; have hfz31_0 := blk_frozen BK195.out 0; have hfz31_1 := blk_frozen BK195.out 1; have hfz31_2 := blk_frozen BK195.out 2; have hfz31_3 := blk_frozen BK195.out 3))
  go_ret
  exact ⟨by first | rfl | (simp [*, errW_none, errW_some] <;> rfl), by repeat (first | (with_reducible first | exact HB.out | apply bA | apply bN | apply b1 | refine bS ?_ GE194.out | refine bS ?_ GE195.out) | exact HB.out)⟩

end Go.Proofs.Ythajjjpblkhmmaa.CL
