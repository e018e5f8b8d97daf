/- Functions that a law of this seat reaches: written by a program of this session (wip/xprint.py), and by hand. -/
import Derived.Test.YtpcfjobojdldnaaYMac
import Derived.Test.YtpcfjobojdldnaaYCVx0
import Derived.Test.YtpcfjobojdldnaaYCVx3
import Derived.Test.YtpcfjobojdldnaaYCVx6
import Derived.Test.YtpcfjobojdldnaaYCVx7
import Derived.Test.YtpcfjobojdldnaaYCVx9
import Derived.Test.YtpcfjobojdldnaaYCVx10
namespace Go.Proofs.Ytpcfjobojdldnaa.CV
open Go.RowKit Go.Proofs.Ytpcfjobojdldnaa.B Go.Proofs.YtpcfjobojdldnaaW.PrintWords Go.Proofs.YtpcfjobojdldnaaW.PrintLast Go.Proofs.YtpcfjobojdldnaaW.PrintMore
attribute [local go_sem] max2_int min2_int max_two min_two max_three min_three max_four min_four   -- for this text's walks alone
set_option linter.unusedVariables false
set_option linter.unusedSimpArgs false

def rw64 (out : List (List Int)) : Prop := ∀ b ∈ out, b.length = 64
/-- What a scan tells of one component, from a place on: so many places. -/
def telK (c needs low : Int) : Nat → Nat → List (List Int) → Bool × List (List Int)
  | 0, _, out => (true, out)
  | n + 1, k, out => if rd (rd_L2 out c) (k : Int) = needs then telK c needs low n (k + 1) (out.set c.toNat ((rd_L2 out c).set k low)) else (false, out)
def telC (needs low : Int) (n f : Nat) : List Int → List (List Int) → Bool × List (List Int)
  | [], out => (true, out)
  | c :: cs, out => if (telK c needs low n f out).1 = true then telC needs low n f cs (telK c needs low n f out).2 else (false, (telK c needs low n f out).2)
def needI2 (h : Int) : Int := if h > 0 then h else -1
def telI (s : S86) (out : List (List Int)) : Bool × List (List Int) := telC (needI2 s.f3) s.f4 (s.f2 - s.f1 + 1).toNat s.f1.toNat s.f0 out
/-- What scans tell, one behind the other, each one looked at first. -/
def lefS (ok : S86 → Bool) : List S86 → List (List Int) → List (List Int) × Bool
  | [], out => (out, true)
  | s :: ss, out => if ok s = true then (if (telI s out).1 = true then lefS ok ss (telI s out).2 else ([], false)) else ([], false)
def unt (n : Nat) : List (List Int) := List.replicate n (List.replicate 64 (-1))
theorem unt_len (n : Nat) : (unt n).length = n := by simp [unt]
theorem unt_succ (n : Nat) : unt n ++ [List.replicate 64 (-1)] = unt (n + 1) := (List.replicate_succ' (n := n) (a := List.replicate 64 (-1 : Int))).symm
theorem unt_64 (n : Nat) : rw64 (unt n) := by
  intro b hb
  rw [List.eq_of_mem_replicate hb]
  simp
theorem rdSZ {out : List (List Int)} {c : Int} (h0 : 0 ≤ c) (h1 : c < (out.length : Int)) : rd_L2 out c = out[c.toNat]'(by omega) := by
  have h : c.toNat < out.length := by omega
  simp [rd_L2, List.getD, h]
theorem rw64_rd {out : List (List Int)} {c : Int} (hr : rw64 out) (h0 : 0 ≤ c) (h1 : c < (out.length : Int)) : (rd_L2 out c).length = 64 := by
  rw [rdSZ h0 h1]
  exact hr _ (List.getElem_mem _)
theorem rw64_set {out : List (List Int)} {c : Int} {k : Nat} {low : Int} (hr : rw64 out) (h0 : 0 ≤ c) (h1 : c < (out.length : Int)) : rw64 (out.set c.toNat ((rd_L2 out c).set k low)) := by
  intro b hb
  rcases List.mem_or_eq_of_mem_set hb with h | h
  · exact hr b h
  · rw [h, List.length_set]
    exact rw64_rd hr h0 h1
theorem telK_inv (c needs low : Int) (L : Nat) (h0 : 0 ≤ c) (h1 : c < (L : Int)) : ∀ (n k : Nat) (out : List (List Int)), out.length = L → rw64 out → (telK c needs low n k out).2.length = L ∧ rw64 (telK c needs low n k out).2
  | 0, _, out, hl, hr => ⟨hl, hr⟩
  | n + 1, k, out, hl, hr => by
    rw [telK]
    split
    · exact telK_inv c needs low L h0 h1 n (k + 1) _ (by rw [List.length_set]; exact hl) (rw64_set hr h0 (by omega))
    · exact ⟨hl, hr⟩
theorem telC_inv (needs low : Int) (n f L : Nat) : ∀ (cs : List Int) (out : List (List Int)), (∀ c ∈ cs, 0 ≤ c ∧ c < (L : Int)) → out.length = L → rw64 out → (telC needs low n f cs out).2.length = L ∧ rw64 (telC needs low n f cs out).2
  | [], out, _, hl, hr => ⟨hl, hr⟩
  | c :: cs, out, hc, hl, hr => by
    obtain ⟨h0, h1⟩ := hc c List.mem_cons_self
    obtain ⟨i1, i2⟩ := telK_inv c needs low L h0 h1 n f out hl hr
    rw [telC]
    split
    · exact telC_inv needs low n f L cs _ (fun x hx => hc x (List.mem_cons_of_mem _ hx)) i1 i2
    · exact ⟨i1, i2⟩
theorem compsB_mem (l : List Int) (n : Nat) (hn : n ≤ 1048576) : ∀ (d i : Nat), i + d = l.length → compsB l (n : Int) d i = true → ∀ c ∈ l.drop i, 0 ≤ c ∧ c < (n : Int)
  | 0, i, hi, _, c, hc => by
    rw [List.drop_eq_nil_of_le (by omega)] at hc
    simp at hc
  | d + 1, i, hi, h, c, hc => by
    have hlt : i < l.length := by omega
    rw [compsB, Bool.and_eq_true, Bool.and_eq_true] at h
    obtain ⟨h1, _, h3⟩ := h
    rw [List.drop_eq_getElem_cons hlt] at hc
    rcases List.mem_cons.1 hc with rfl | hc
    · rw [inR_iff, show rd l (i : Int) = l[i] from by simp [rd, List.getD, hlt], w64 (by omega) (by omega)] at h1
      omega
    · exact compsB_mem l n hn d (i + 1) (by omega) h3 c hc
theorem scan_facts {p w h r : Int} {l : List S74} (hl : l.length ≤ 1048576) {c : List Int} {f t hi lo : Int} (hb : scanB p w h r l c f t hi lo = true) : (∀ x ∈ c, 0 ≤ x ∧ x < (l.length : Int)) ∧ 0 ≤ f ∧ f ≤ t ∧ t ≤ 63 ∧ (hi = 0 ∨ 0 < hi) := by
  unfold scanB at hb
  rw [Bool.and_eq_true, Bool.and_eq_true] at hb
  obtain ⟨_, h2, h3⟩ := hb
  obtain ⟨b1, b2, b3, b4, b5, b6⟩ := pass_bounds h3
  refine ⟨fun x hx => ?_, b1, b2, b3, by omega⟩
  have := compsB_mem c l.length hl c.length 0 (by omega) h2
  rw [List.drop_zero] at this
  exact this x hx
theorem telI_inv {p w h r : Int} {l : List S74} (hl : l.length ≤ 1048576) {s : S86} (hb : scanB p w h r l s.f0 s.f1 s.f2 s.f3 s.f4 = true) {out : List (List Int)} (ho : out.length = l.length) (hr : rw64 out) : (telI s out).2.length = l.length ∧ rw64 (telI s out).2 :=
  telC_inv _ _ _ _ _ _ _ (scan_facts hl hb).1 ho hr
theorem sLeft_l4 (J : List S86) (i : Nat) (want : Int) (j : Nat) (p w h r : Int) (l : List S74) (c : List Int) (f t hi low : Int) (ht : t ≤ 63) (hj : j < c.length) (hc : 0 ≤ c[j] ∧ c[j] < (l.length : Int)) (R : List (List Int) → List (List Int) × Bool)
    (hR : ∀ out, out.length = l.length → rw64 out → Ev (fun k => spec_l12Left.l3 k J out i want (wrap64 ((j : Int) + 1)) p w h r l c f t hi low) (R out)) :
    ∀ (n k : Nat) (out : List (List Int)), (n : Int) + k = t + 1 → out.length = l.length → rw64 out → Ev (fun q => spec_l12Left.l4 q J out i want j k p w h r l c f t hi low) (if (telK c[j] want low n k out).1 = true then R (telK c[j] want low n k out).2 else ([], false)) := by
  have ec : rd c (j : Int) = c[j] := by simp [rd, List.getD, hj]
  intro n
  induction n with
  | zero =>
    intro k out hk ho hr
    rw [telK, if_pos rfl]
    exact Ev.step (fun q => by rw [spec_l12Left.l4]) (evNeg (by omega) (hR out ho hr))
  | succ n ih =>
    intro k out hk ho hr
    have h64 := rw64_rd hr hc.1 (by rw [ho]; exact hc.2)
    refine Ev.step (fun q => by rw [spec_l12Left.l4]) ?_
    rw [ec]
    refine evPos (by omega) (evPos (by omega) (evPos (by omega) (evPos hc.1 (evPos (by rw [ho]; exact hc.2) (evPos (by omega) (evPos (by rw [h64]; omega) ?_))))))
    rw [telK]
    refine evIf (fun he => ?_) (fun he => ?_)
    · rw [if_pos he, Int.toNat_natCast, show (k : Int) + 1 = ((k + 1 : Nat) : Int) from rfl, w64n (by omega)]
      exact ih (k + 1) _ (by omega) (by rw [List.length_set]; exact ho) (rw64_set hr hc.1 (by rw [ho]; exact hc.2))
    · rw [if_neg he, if_neg (by simp)]
      exact Ev.now _
theorem sLeft_l3 (J : List S86) (i : Nat) (want : Int) (p w h r : Int) (l : List S74) (c : List Int) (f t hi low : Int) (hcl : c.length ≤ 1048576) (h0 : 0 ≤ f) (hft : f ≤ t) (ht : t ≤ 63) (hc : ∀ x ∈ c, 0 ≤ x ∧ x < (l.length : Int)) (R : List (List Int) → List (List Int) × Bool)
    (hR : ∀ out, out.length = l.length → rw64 out → Ev (fun k => spec_l12Left.l2 k J out (wrap64 ((i : Int) + 1)) p w h r l) (R out)) :
    ∀ (d j : Nat) (out : List (List Int)), j + d = c.length → out.length = l.length → rw64 out → Ev (fun q => spec_l12Left.l3 q J out i want j p w h r l c f t hi low) (if (telC want low (t - f + 1).toNat f.toNat (c.drop j) out).1 = true then R (telC want low (t - f + 1).toNat f.toNat (c.drop j) out).2 else ([], false)) := by
  intro d
  induction d with
  | zero =>
    intro j out hj ho hr
    rw [List.drop_eq_nil_of_le (by omega), telC, if_pos rfl]
    exact Ev.step (fun q => by rw [spec_l12Left.l3]) (evNeg (by omega) (hR out ho hr))
  | succ d ih =>
    intro j out hj ho hr
    have hlt : j < c.length := by omega
    have hcj := hc _ (List.getElem_mem hlt)
    refine Ev.step (fun q => by rw [spec_l12Left.l3]) (evPos (by omega) ?_)
    have key := sLeft_l4 J i want j p w h r l c f t hi low ht hlt hcj (fun out => if (telC want low (t - f + 1).toNat f.toNat (c.drop (j + 1)) out).1 = true then R (telC want low (t - f + 1).toNat f.toNat (c.drop (j + 1)) out).2 else ([], false))
      (fun out' ho' hr' => by
        rw [show (j : Int) + 1 = ((j + 1 : Nat) : Int) from rfl, w64n (by omega)]
        exact ih (j + 1) out' (by omega) ho' hr') (t - f + 1).toNat f.toNat out (by omega) ho hr
    rw [List.drop_eq_getElem_cons hlt, telC]
    rw [show ((f.toNat : Nat) : Int) = f from by omega] at key
    by_cases hk : (telK c[j] want low (t - f + 1).toNat f.toNat out).1 = true
    · rw [if_pos hk] at key ⊢
      exact key
    · rw [if_neg hk] at key ⊢
      rw [if_neg (by simp)]
      exact key
theorem sLeft_l2 (J : List S86) (hJ : J.length ≤ 1048576) (hJx : ∀ s ∈ J, s.f0.length ≤ 1048576) (p w h r : Int) (l : List S74) (hl : l.length ≤ 1048576) :
    ∀ (d i : Nat) (out : List (List Int)), i + d = J.length → out.length = l.length → rw64 out → Ev (fun q => spec_l12Left.l2 q J out i p w h r l) (lefS (fun s => scanB p w h r l s.f0 s.f1 s.f2 s.f3 s.f4) (J.drop i) out) := by
  intro d
  induction d with
  | zero =>
    intro i out hi ho hr
    rw [List.drop_eq_nil_of_le (by omega), lefS]
    exact Ev.step (fun q => by rw [spec_l12Left.l2]) (evNeg (by omega) (Ev.now _))
  | succ d ih =>
    intro i out hi ho hr
    have hlt : i < J.length := by omega
    refine Ev.step (fun q => by rw [spec_l12Left.l2]) (evPos (by omega) (evPos (by omega) ?_))
    rw [rdS_nat hlt, List.drop_eq_getElem_cons hlt, lefS]
    obtain ⟨s, hs⟩ : ∃ s, s = J[i] := ⟨_, rfl⟩
    rw [← hs]
    have hsl : s.f0.length ≤ 1048576 := by rw [hs]; exact hJx _ (List.getElem_mem hlt)
    clear hs
    refine evBind (sScanOk_f p w h r l hl s.f0 hsl s.f1 s.f2 s.f3 s.f4) (evIf (fun hb => ?_) (fun hb => ?_))
    · rw [if_pos hb]
      obtain ⟨hc, h0, hft, ht, hhi⟩ := scan_facts hl hb
      have key := fun want => sLeft_l3 J i want p w h r l s.f0 s.f1 s.f2 s.f3 s.f4 hsl h0 hft ht hc (lefS (fun s => scanB p w h r l s.f0 s.f1 s.f2 s.f3 s.f4) (J.drop (i + 1)))
        (fun out' ho' hr' => by
          rw [show (i : Int) + 1 = ((i + 1 : Nat) : Int) from rfl, w64n (by omega)]
          exact ih (i + 1) out' (by omega) ho' hr') s.f0.length 0 out (by omega) ho hr
      simp only [List.drop_zero] at key
      unfold telI needI2
      refine evIf (fun hz => ?_) (fun hz => ?_)
      · rw [if_neg (show ¬ s.f3 > 0 by omega)]
        exact Ev.step (fun q => by rw [spec_l12Left.j4]; rfl) (key (-1))
      · rw [if_pos (show s.f3 > 0 by omega)]
        exact Ev.step (fun q => by rw [spec_l12Left.j4]; rfl) (key s.f3)
    · rw [if_neg hb]
      exact Ev.now _
theorem sLeft_l1 (J : List S86) (i : Nat) (p w h r : Int) (l : List S74) (out : List (List Int)) (ho : out.length < 5864062014805) (R : List (List Int) × Bool)
    (hR : Ev (fun q => spec_l12Left.l0 q J (out ++ [List.replicate 64 (-1)]) (wrap64 ((i : Int) + 1)) p w h r l) R) : ∀ (d k : Nat), k + d = 64 → Ev (fun q => spec_l12Left.l1 q J out i (List.replicate k (-1)) k p w h r l) R := by
  intro d
  induction d with
  | zero =>
    intro k hk
    obtain rfl : k = 64 := by omega
    exact Ev.step (fun q => by rw [spec_l12Left.l1]) (evNeg (by omega) (evPos ho hR))
  | succ d ih =>
    intro k hk
    refine Ev.step (fun q => by rw [spec_l12Left.l1]) (evPos (by omega) (evPos (by rw [List.length_replicate]; omega) ?_))
    rw [show (k : Int) + 1 = ((k + 1 : Nat) : Int) from rfl, w64n (by omega), ← List.replicate_succ']
    exact ih (k + 1) (by omega)
theorem sLeft_l0 (J : List S86) (hJ : J.length ≤ 1048576) (hJx : ∀ s ∈ J, s.f0.length ≤ 1048576) (p w h r : Int) (l : List S74) (hl : l.length ≤ 1048576) :
    ∀ (d i : Nat), i + d = l.length → Ev (fun q => spec_l12Left.l0 q J (unt i) i p w h r l) (lefS (fun s => scanB p w h r l s.f0 s.f1 s.f2 s.f3 s.f4) J (unt l.length)) := by
  intro d
  induction d with
  | zero =>
    intro i hi
    obtain rfl : i = l.length := by omega
    refine Ev.step (fun q => by rw [spec_l12Left.l0]) (evNeg (by omega) ?_)
    have key := sLeft_l2 J hJ hJx p w h r l hl J.length 0 (unt l.length) (by omega) (unt_len _) (unt_64 _)
    rw [List.drop_zero] at key
    exact key
  | succ d ih =>
    intro i hi
    refine Ev.step (fun q => by rw [spec_l12Left.l0]) (evPos (by omega) ?_)
    refine sLeft_l1 J i p w h r l (unt i) (by rw [unt_len]; omega) _ ?_ 64 0 (by omega)
    rw [show (i : Int) + 1 = ((i + 1 : Nat) : Int) from rfl, w64n (by omega), unt_succ]
    exact ih (i + 1) (by omega)
def leftI (p w h r : Int) (l : List S74) (J : List S86) : List (List Int) × Bool := if frameB p w h r l = true ∧ ¬ (J.length : Int) > 40 then lefS (fun s => scanB p w h r l s.f0 s.f1 s.f2 s.f3 s.f4) J (unt l.length) else ([], false)
theorem sLeft_f (J : List S86) (hJ : J.length ≤ 1048576) (hJx : ∀ s ∈ J, s.f0.length ≤ 1048576) (p w h r : Int) (l : List S74) (hl : l.length ≤ 1048576) : Ev (fun q => spec_l12Left.f q p w h r l J) (leftI p w h r l J) := by
  unfold spec_l12Left.f leftI
  refine evBind (Ev.now _) (evBind (sFrameOk_f p w h r l hl) (evIf (fun hb => ?_) (fun hb => ?_)))
  · by_cases h40 : (J.length : Int) > 40
    · rw [if_neg (fun hc => hc.2 h40), decide_eq_true h40]
      exact Ev.step (fun q => by rw [spec_l12Left.j0]) (evPos rfl (Ev.now _))
    · rw [if_pos ⟨hb, h40⟩, decide_eq_false h40]
      have key : Ev (fun q => spec_l12Left.l0 q J [] 0 p w h r l) (lefS (fun s => scanB p w h r l s.f0 s.f1 s.f2 s.f3 s.f4) J (unt l.length)) := sLeft_l0 J hJ hJx p w h r l hl l.length 0 (by omega)
      exact Ev.step (fun q => by rw [spec_l12Left.j0]) (evNeg (by simp) key)
  · rw [if_neg (fun hc => hb hc.1)]
    exact Ev.step (fun q => by rw [spec_l12Left.j0]) (evPos rfl (Ev.now _))
theorem lefS_inv (p w h r : Int) (l : List S74) (hl : l.length ≤ 1048576) : ∀ (J : List S86) (out : List (List Int)), out.length = l.length → rw64 out → (lefS (fun s => scanB p w h r l s.f0 s.f1 s.f2 s.f3 s.f4) J out).1.length ≤ l.length ∧ rw64 (lefS (fun s => scanB p w h r l s.f0 s.f1 s.f2 s.f3 s.f4) J out).1
  | [], out, ho, hr => ⟨Nat.le_of_eq ho, hr⟩
  | s :: J, out, ho, hr => by
    rw [lefS]
    split
    · rename_i hb
      obtain ⟨i1, i2⟩ := telI_inv hl hb ho hr
      split
      · exact lefS_inv p w h r l hl J _ i1 i2
      · exact ⟨by simp, fun b hb => by simp at hb⟩
    · exact ⟨by simp, fun b hb => by simp at hb⟩
theorem leftI_inv (p w h r : Int) (l : List S74) (hl : l.length ≤ 1048576) (J : List S86) : (leftI p w h r l J).1.length ≤ l.length ∧ rw64 (leftI p w h r l J).1 := by
  unfold leftI
  split
  · exact lefS_inv p w h r l hl J _ (unt_len _) (unt_64 _)
  · exact ⟨by simp, fun b hb => by simp at hb⟩

/-! ### spec_ScriptOk: function 17 -/
def spec_ScriptOk.l0 : Nat → List (List Int) → Bool → Int → Option (Bool)
  | 0, _, _, _ => none
  | k + 1, x5, x6, x7 => if x7 < (x5.length : Int) then (if x6 = true then (if 0 ≤ x7 then ((spec_l11Zero.f k (rd_L2 x5 x7)).bind fun t292 => (spec_ScriptOk.l0 k x5 t292 (wrap64 (x7 + 1)))) else (none)) else (spec_ScriptOk.l0 k x5 false (wrap64 (x7 + 1)))) else (some x6)
def spec_ScriptOk.f (k : Nat) (a0_0 : Int) (a0_1 : Int) (a0_2 : Int) (a0_3 : Int) (l0_4 : List (S74)) (l1 : List (S86)) : Option (Bool) := (spec_l12Left.f k a0_0 a0_1 a0_2 a0_3 l0_4 l1).bind fun bt287 => (spec_ScriptOk.l0 k bt287.1 bt287.2 0)
theorem spec_ScriptOk.mono_l : ∀ k, (∀ y0 y1 y2, LeO (spec_ScriptOk.l0 k y0 y1 y2) (spec_ScriptOk.l0 (k + 1) y0 y1 y2))
 | 0 => fun _ _ _ r h => by simp [spec_ScriptOk.l0] at h
 | k + 1 => by
  have ih0 := spec_ScriptOk.mono_l k
  ·intro y0 y1 y2
   unfold spec_ScriptOk.l0
   repeat' first
   | (with_reducible exact ih0 _ _ _)
   | (with_reducible exact spec_l11Zero.mono _ _)
   | (with_reducible exact spec_l12Left.mono _ _ _ _ _ _ _)
   | (with_reducible exact LeO.refl _)
   | (with_reducible exact LeO.none _)
   | (with_reducible refine LeO.ite ?_ ?_)
   | (with_reducible refine LeO.bind ?_ (fun _ => ?_))
   | exact ih0 _ _ _
   | exact spec_l11Zero.mono _ _
   | exact spec_l12Left.mono _ _ _ _ _ _ _
   | exact LeO.none _
   | refine LeO.ite ?_ ?_
   | refine LeO.bind ?_ (fun _ => ?_)
theorem spec_ScriptOk.mono : ∀ a0 a1 a2 a3 a4 a5 k, LeO (spec_ScriptOk.f k a0 a1 a2 a3 a4 a5) (spec_ScriptOk.f (k + 1) a0 a1 a2 a3 a4 a5) := by
 intro a0 a1 a2 a3 a4 a5 k
 have ih0 := spec_ScriptOk.mono_l k
 unfold spec_ScriptOk.f
 repeat' first
   | (with_reducible exact ih0 _ _ _)
   | (with_reducible exact spec_l11Zero.mono _ _)
   | (with_reducible exact spec_l12Left.mono _ _ _ _ _ _ _)
   | (with_reducible exact LeO.refl _)
   | (with_reducible exact LeO.none _)
   | (with_reducible refine LeO.ite ?_ ?_)
   | (with_reducible refine LeO.bind ?_ (fun _ => ?_))
   | exact ih0 _ _ _
   | exact spec_l11Zero.mono _ _
   | exact spec_l12Left.mono _ _ _ _ _ _ _
   | exact LeO.none _
   | refine LeO.ite ?_ ?_
   | refine LeO.bind ?_ (fun _ => ?_)
set_option maxHeartbeats 8000000 in
set_option maxRecDepth 100000 in
theorem spec_ScriptOk.calls (k : Nat) (a0_0 : Int) (a0_1 : Int) (a0_2 : Int) (a0_3 : Int) (A0_4 : Option Addr) (c0_4 : Nat) (l0_4 : List (S74)) (A1 : Option Addr) (c1 : Nat) (l1 : List (S86)) (r : Bool) (w : World) (hr0_4 : Kd.C k74 w A0_4 l0_4.length l0_4) (hc0_4 : l0_4.length ≤ c0_4) (hr1 : Kd.C k86 w A1 l1.length l1) (hc1 : l1.length ≤ c1) (h : spec_ScriptOk.f k a0_0 a0_1 a0_2 a0_3 l0_4 l1 = some r) :
  Calls Try.prog 17 #[.agg #[.int .i64 a0_0, .int .i64 a0_1, .int .i64 a0_2, .int .i64 a0_3, .slice A0_4 l0_4.length c0_4], .slice A1 l1.length c1] w fun e w' => e = .returned (.bool r) ∧ Below w.heap.size w w' := by
 have hu37 := Try.underlying37
 have HR0_4 := aM hr0_4
 have HC0_4 := aM hc0_4
 clear hr0_4 hc0_4
 have HR1 := aM hr1
 have HC1 := aM hc1
 clear hr1 hc1
 have HB := aM (Below.refl w.heap.size w)
 have H : ((spec_l12Left.f k a0_0 a0_1 a0_2 a0_3 l0_4 l1).bind fun bt287 => (spec_ScriptOk.l0 k bt287.1 bt287.2 0)) = some r := h
 clear h
 replace H := oB H
 obtain ⟨⟨t287, t290⟩, A30, H⟩ := H
 replace H : (spec_ScriptOk.l0 k t287 t290 0) = some r := H
 have A3 := aM A30
 clear A30
 have H' := aM H
 clear H
 go_enter Try.func17, Try.ntmps17
 go_wp2_with (first | ((with_reducible refine gate_dst (N := 2) rfl ?_); refine box_event ?hg (N := 2) ?hd (cs := #[.int .i64 a0_0, .int .i64 a0_1, .int .i64 a0_2, .int .i64 a0_3, .slice A0_4 l0_4.length c0_4]) (t := 37) ?hr ?_; (case hd => rfl); (case hg => rfl); (case hr => first | (go_simp; done) | (go_simp; rfl)); intro gb286 hg w4 hbox hb; have BK286 := aM hbox; have GW286 := aM (zG hg : w.heap.size ≤ gb286); have GE286 := aM (zG hg : w.heap.size ≤ gb286); replace HB := cH HB hb; clear hb hbox hg; obtain ⟨hcz5_0, hcz5_1, hcz5_2, hcz5_3, hcz5_4⟩ := kk5 BK286; obtain ⟨hfz5_0, hfz5_1, hfz5_2, hfz5_3, hfz5_4⟩ := kg5 BK286) | (go_at_call 43; (with_reducible refine (spec_l12Left.calls k a0_0 a0_1 a0_2 a0_3 _ _ l0_4 _ _ l1 t287 t290 _ ?side1 ?side2 ?side3 ?side4 A3.out).mono ?_); (case side1 => exact zC (Kd.C_below HR0_4.out HB.out)); (case side2 => exact HC0_4.out); (case side3 => exact zC (Kd.C_below HR1.out HB.out)); (case side4 => exact HC1.out); rintro e w6 ⟨v288, rfl, ho0, hb⟩; have HO289 := aM (Kd.S_lower ho0 (below_size zH)); replace BK286 := cB BK286 hb; replace HB := cH HB hb; (try clear hb); (try clear ho0)))
 go_loopg [6, 7] k (fun kq v6 v7 w' => ∃ (x6_1 : Bool) (x7_1 : Int), v6 = .bool x6_1 ∧ v7 = .int .i64 x7_1 ∧ Aside0 (spec_ScriptOk.l0 kq t287 x6_1 x7_1 = some r) ∧ Aside0 (kq ≤ k) ∧ Aside0 (Kd.S (Kd.slice 3 (Kd.int .i64)) 55 w' w.heap.size (fun _ => True) v288 t287) ∧ Aside0 (w'.heap[gb286]? = some (.cells #[.int .i64 a0_0, .int .i64 a0_1, .int .i64 a0_2, .int .i64 a0_3, (.slice A0_4 l0_4.length c0_4)] 37 (0, 0))) ∧ Aside0 (Below w.heap.size w w'))
 case atStart => exact ⟨(t290), (0), zS, zS, H', ⟨Nat.le_refl _⟩, ⟨by (with_reducible repeat (first | apply Kd.S_alloc | apply Kd.S_drewN | apply Kd.S_drew)); exact HO289.out⟩, ⟨zK BK286⟩, ⟨zH⟩⟩
 case round =>
  clear H'
  (try clear c1); (try clear hcz5_0); (try clear hcz5_1); (try clear hcz5_2); (try clear hcz5_3); (try clear hcz5_4); (try clear hfz5_0); (try clear hfz5_1); (try clear hfz5_2); (try clear hfz5_3); (try clear hfz5_4)
  obtain ⟨x6_1, x7_1, rfl, rfl, HA, HK1, HO_5, BK286, HB⟩ := hrel
  cases gk with
  | zero => exact absurd HA.out (by simp [spec_ScriptOk.l0])
  | succ k1 =>
   have H := HA.out
   clear HA
   simp only [spec_ScriptOk.l0] at H
   by_cases c7 : x7_1 < (t287.length : Int)
   ·rw [if_pos c7] at H
    have c7b0 : decide (x7_1 < (t287.length : Int)) = true := decide_eq_true c7
    clear c7
    by_cases c8 : x6_1 = true
    ·subst c8
     replace H := iT H
     by_cases c9 : 0 ≤ x7_1
     ·rw [if_pos c9] at H
      have c9b0 : decide (0 ≤ x7_1) = true := decide_eq_true c9
      clear c9
      obtain ⟨t292, A10, H⟩ := oH H
      have H' := aM H
      clear H
      obtain ⟨Ao11, co11, eo11⟩ := Kd.S_slice HO_5.out
      subst eo11
      have p291 : 0 ≤ (x7_1 : Int) := zA
      have q291 : x7_1 < (t287.length : Int) := zA
      obtain ⟨ad291, A291_0, c291_0, e291, hx291_0, hl291_0, hi291_0⟩ := at_L2 (Kd.S_reads' HO_5.out).2.2 x7_1 p291 q291
      cases e291
      obtain ⟨ce291, hce291, hMe291, hcc291⟩ := Kd.S_get HO_5.out [] x7_1 p291 (by first | exact q291 | exact zA | (have e_ := (Kd.S_reads' HO_5.out).1; omega))
      obtain ⟨ve291_0, rfl, ge291_0⟩ := hMe291
      have hv291_0 := hcc291 0 _ rfl
      rw [Nat.add_zero, show ((Kd.slice 3 (Kd.int .i64))).sz = 1 from rfl, Nat.mul_one] at hv291_0
      replace hv291_0 := Option.some.inj (hv291_0.symm.trans hx291_0)
      rw [hv291_0] at ge291_0
      have HL291_0 := aM (show Kd.R (Kd.int .i64) 3 _ _ _ _ (rd_L2 t287 x7_1) from ge291_0)
      clear hv291_0 ge291_0
      clear hcc291 hce291
      have HR291_0 := aM hi291_0
      have HC291_0 := aM hl291_0
      clear hi291_0 hl291_0
      replace p291 := eq_true p291
      replace q291 := eq_true q291
      go_wp2_with (first | (go_at_call 42; (with_reducible refine (spec_l11Zero.calls k1 _ _ (rd_L2 t287 x7_1) t292 _ ?side1 ?side2 A10.out).mono ?_); (case side1 => exact zC (by repeat (first | (with_reducible exact HR291_0.out) | (with_reducible first | refine Kd.C_alloc ?_ _ | refine Kd.C_drewN ?_ _ | refine Kd.C_drew ?_) | exact HR291_0.out))); (case side2 => exact HC291_0.out); rintro e w' ⟨rfl, ⟨nd, rfl⟩⟩))
      go_roundg k1
      case measure => have := HK1.out; omega
      case rel => exact ⟨(t292), (wrap64 (x7_1 + 1)), zS, zS, H', ⟨by have := HK1.out; omega⟩, ⟨by (with_reducible repeat (first | apply Kd.S_alloc | apply Kd.S_drewN | apply Kd.S_drew)); exact HO_5.out⟩, ⟨zK BK286⟩, ⟨zH⟩⟩
     ·rw [if_neg c9] at H
      exact absurd H (by simp)
    ·replace c8 := Bool.eq_false_iff.mpr c8
     subst c8
     replace H := iF H
     have H' := aM H
     clear H
     obtain ⟨Ao12, co12, eo12⟩ := Kd.S_slice HO_5.out
     subst eo12
     go_wp2
     go_roundg k1
     case measure => have := HK1.out; omega
     case rel => exact ⟨(false), (wrap64 (x7_1 + 1)), zS, zS, H', ⟨by have := HK1.out; omega⟩, ⟨by (with_reducible repeat (first | apply Kd.S_alloc | apply Kd.S_drewN | apply Kd.S_drew)); exact HO_5.out⟩, ⟨zK BK286⟩, ⟨zH⟩⟩
   ·rw [if_neg c7] at H
    have c7b0 : decide (x7_1 < (t287.length : Int)) = false := decide_eq_false c7
    clear c7
    obtain rfl := Option.some.inj H
    obtain ⟨Ao13, co13, eo13⟩ := Kd.S_slice HO_5.out
    subst eo13
    go_wp2
    go_ret
    exact ⟨zR, zH⟩

theorem sScript_l0 (x : List (List Int)) (hx : rw64 x) (hl : x.length ≤ 1048576) : ∀ (d i : Nat) (b : Bool), i + d = x.length → Ev (fun q => spec_ScriptOk.l0 q x b i) (b && (x.drop i).all fun y => allR y 0 0) := by
  intro d
  induction d with
  | zero =>
    intro i b hi
    rw [List.drop_eq_nil_of_le (by omega), List.all_nil, Bool.and_true]
    exact Ev.step (fun q => by rw [spec_ScriptOk.l0]) (evNeg (by omega) (Ev.now _))
  | succ d ih =>
    intro i b hi
    have hlt : i < x.length := by omega
    have e1 : wrap64 ((i : Int) + 1) = ((i + 1 : Nat) : Int) := by
      rw [show (i : Int) + 1 = ((i + 1 : Nat) : Int) from rfl]
      exact w64n (by omega)
    refine Ev.step (fun q => by rw [spec_ScriptOk.l0]) (evPos (by omega) ?_)
    rw [e1, List.drop_eq_getElem_cons hlt, List.all_cons]
    refine evIf (fun hb => evPos (by omega) ?_) (fun hb => ?_)
    · rw [hb, Bool.true_and, show rd_L2 x (i : Int) = x[i] from by simp [rd_L2, List.getD, hlt]]
      exact evBind (sZero_f _ (by rw [hx _ (List.getElem_mem hlt)]; omega)) (ih (i + 1) _ (by omega))
    · rw [Bool.eq_false_iff.2 hb, Bool.false_and]
      have := ih (i + 1) false (by omega)
      rw [Bool.false_and] at this
      exact this
def scriptB (p w h r : Int) (l : List S74) (J : List S86) : Bool := (leftI p w h r l J).2 && (leftI p w h r l J).1.all fun y => allR y 0 0
theorem sScriptOk_f (J : List S86) (hJ : J.length ≤ 1048576) (hJx : ∀ s ∈ J, s.f0.length ≤ 1048576) (p w h r : Int) (l : List S74) (hl : l.length ≤ 1048576) : Ev (fun q => spec_ScriptOk.f q p w h r l J) (scriptB p w h r l J) := by
  unfold spec_ScriptOk.f scriptB
  refine evBind (sLeft_f J hJ hJx p w h r l hl) ?_
  obtain ⟨h1, h2⟩ := leftI_inv p w h r l hl J
  have key := sScript_l0 (leftI p w h r l J).1 h2 (by omega) (leftI p w h r l J).1.length 0 (leftI p w h r l J).2 (by omega)
  rw [List.drop_zero] at key
  exact key

/-! ### spec_TableOk: function 18 -/
def spec_TableOk.f (k : Nat) (l0 : List Int) : Option (Bool) := (spec_l05Nums.f k l0 1 1023).bind fun t293 => (some t293)
theorem spec_TableOk.mono : ∀ a0 k, LeO (spec_TableOk.f k a0) (spec_TableOk.f (k + 1) a0) := by
 intro a0 k
 unfold spec_TableOk.f
 repeat' first
   | (with_reducible exact spec_l05Nums.mono _ _ _ _)
   | (with_reducible exact LeO.refl _)
   | (with_reducible exact LeO.none _)
   | (with_reducible refine LeO.ite ?_ ?_)
   | (with_reducible refine LeO.bind ?_ (fun _ => ?_))
   | exact spec_l05Nums.mono _ _ _ _
   | exact LeO.none _
   | refine LeO.ite ?_ ?_
   | refine LeO.bind ?_ (fun _ => ?_)
set_option maxHeartbeats 8000000 in
set_option maxRecDepth 100000 in
theorem spec_TableOk.calls (k : Nat) (A0 : Option Addr) (c0 : Nat) (l0 : List Int) (r : Bool) (w : World) (hr0 : Kd.C (Kd.int .i64) w A0 l0.length l0) (hc0 : l0.length ≤ c0) (h : spec_TableOk.f k l0 = some r) :
  Calls Try.prog 18 #[.slice A0 l0.length c0] w fun e w' => e = .returned (.bool r) ∧ Drawn0 w w' := by
 have HR0 := aM hr0
 have HC0 := aM hc0
 clear hr0 hc0
 have H : ((spec_l05Nums.f k l0 1 1023).bind fun t293 => (some t293)) = some r := h
 clear h
 obtain ⟨t293, A2, H⟩ := oH H
 obtain rfl := Option.some.inj H
 go_enter Try.func18, Try.ntmps18
 go_wp2_with (first | (go_at_call 44; (with_reducible refine (spec_l05Nums.calls k _ _ l0 1 1023 t293 _ ?side1 ?side2 A2.out).mono ?_); (case side1 => exact zC HR0.out); (case side2 => exact HC0.out); rintro e w' ⟨rfl, ⟨nd, rfl⟩⟩))
 go_ret
 exact ⟨by first | rfl | (simp; done) | (simp [*]; done), by repeat (first | exact Drawn0.refl _ | apply Drawn0.step)⟩

/-! ### impl_within: function 28 -/
def impl_within.f (a0 : Int) (a1 : Int) (a2 : Int) : Option (Bool) := if a0 ≥ a1 then (some (decide (a0 ≤ a2))) else (some false)
set_option maxHeartbeats 8000000 in
set_option maxRecDepth 100000 in
theorem impl_within.calls (a0 : Int) (a1 : Int) (a2 : Int) (r : Bool) (w : World) (h : impl_within.f a0 a1 a2 = some r) :
  Calls Try.prog 28 #[.int .i64 a0, .int .i64 a1, .int .i64 a2] w fun e w' => e = .returned (.bool r) ∧ Drawn0 w w' := by
 have H : (if a0 ≥ a1 then (some (decide (a0 ≤ a2))) else (some false)) = some r := h
 clear h
 by_cases c4 : a0 ≥ a1
 ·rw [if_pos c4] at H
  have c4b0 : decide (a1 ≤ a0) = true := decide_eq_true c4
  clear c4
  obtain rfl := Option.some.inj H
  go_enter Try.func28, Try.ntmps28
  go_wp2
  go_ret
  exact ⟨by first | rfl | (simp; done) | (simp [*]; done), by repeat (first | exact Drawn0.refl _ | apply Drawn0.step)⟩
 ·rw [if_neg c4] at H
  have c4b0 : decide (a1 ≤ a0) = false := decide_eq_false c4
  clear c4
  obtain rfl := Option.some.inj H
  go_enter Try.func28, Try.ntmps28
  go_wp2
  go_ret
  exact ⟨by first | rfl | (simp; done) | (simp [*]; done), by repeat (first | exact Drawn0.refl _ | apply Drawn0.step)⟩

theorem within_f (a b c : Int) : impl_within.f a b c = some (inR a b c) := inR_ite a b c

/-! ### impl_allWithin: function 50 -/
def impl_allWithin.l0 : Nat → Int → Int → List Int → Int → Int → Option (Bool)
  | 0, _, _, _, _, _ => none
  | k + 1, x1, x2, x9, x10, x11 => if x11 < x10 then (if 0 ≤ x11 then (if x11 < (x9.length : Int) then ((impl_within.f (rd x9 x11) x1 x2).bind fun t295 => (if t295 = true then (impl_allWithin.l0 k x1 x2 x9 x10 (wrap64 (x11 + 1))) else (some false))) else (none)) else (none)) else (some true)
def impl_allWithin.f (k : Nat) (l0 : List Int) (a1 : Int) (a2 : Int) : Option (Bool) := impl_allWithin.l0 k a1 a2 l0 (l0.length : Int) 0
theorem impl_allWithin.mono_l : ∀ k, (∀ y0 y1 y2 y3 y4, LeO (impl_allWithin.l0 k y0 y1 y2 y3 y4) (impl_allWithin.l0 (k + 1) y0 y1 y2 y3 y4))
 | 0 => fun _ _ _ _ _ r h => by simp [impl_allWithin.l0] at h
 | k + 1 => by
  have ih0 := impl_allWithin.mono_l k
  ·intro y0 y1 y2 y3 y4
   unfold impl_allWithin.l0
   repeat' first
   | (with_reducible exact ih0 _ _ _ _ _)
   | (with_reducible exact LeO.refl _)
   | (with_reducible exact LeO.none _)
   | (with_reducible refine LeO.ite ?_ ?_)
   | (with_reducible refine LeO.bind ?_ (fun _ => ?_))
   | exact ih0 _ _ _ _ _
   | exact LeO.none _
   | refine LeO.ite ?_ ?_
   | refine LeO.bind ?_ (fun _ => ?_)
theorem impl_allWithin.mono : ∀ a0 a1 a2 k, LeO (impl_allWithin.f k a0 a1 a2) (impl_allWithin.f (k + 1) a0 a1 a2) := by
 intro a0 a1 a2 k
 have ih0 := impl_allWithin.mono_l k
 unfold impl_allWithin.f
 repeat' first
   | (with_reducible exact ih0 _ _ _ _ _)
   | (with_reducible exact LeO.refl _)
   | (with_reducible exact LeO.none _)
   | (with_reducible refine LeO.ite ?_ ?_)
   | (with_reducible refine LeO.bind ?_ (fun _ => ?_))
   | exact ih0 _ _ _ _ _
   | exact LeO.none _
   | refine LeO.ite ?_ ?_
   | refine LeO.bind ?_ (fun _ => ?_)
set_option maxHeartbeats 8000000 in
set_option maxRecDepth 100000 in
theorem impl_allWithin.calls (k : Nat) (A0 : Option Addr) (c0 : Nat) (l0 : List Int) (a1 : Int) (a2 : Int) (r : Bool) (w : World) (hr0 : Kd.C (Kd.int .i64) w A0 l0.length l0) (hc0 : l0.length ≤ c0) (h : impl_allWithin.f k l0 a1 a2 = some r) :
  Calls Try.prog 50 #[.slice A0 l0.length c0, .int .i64 a1, .int .i64 a2] w fun e w' => e = .returned (.bool r) ∧ Drawn0 w w' := by
 have HR0 := aM hr0
 have HC0 := aM hc0
 clear hr0 hc0
 have H : (impl_allWithin.l0 k a1 a2 l0 (l0.length : Int) 0) = some r := h
 clear h
 have H' := aM H
 clear H
 go_enter Try.func50, Try.ntmps50
 go_wp2
 go_loopg [11] k (fun kq v11 w' => ∃ (x11_1 : Int), v11 = .int .i64 x11_1 ∧ Aside0 (impl_allWithin.l0 kq a1 a2 l0 (l0.length : Int) x11_1 = some r) ∧ Aside0 (kq ≤ k) ∧ Drawn0 w w')
 case atStart => exact ⟨(0), zS, H', ⟨Nat.le_refl _⟩, by repeat (first | exact Drawn0.refl _ | apply Drawn0.step)⟩
 case round =>
  clear H'
  obtain ⟨x11_1, rfl, HA, HK1, ⟨m1, rfl⟩⟩ := hrel
  cases gk with
  | zero => exact absurd HA.out (by simp [impl_allWithin.l0])
  | succ k1 =>
   have H := HA.out
   clear HA
   simp only [impl_allWithin.l0] at H
   by_cases c4 : x11_1 < (l0.length : Int)
   ·rw [if_pos c4] at H
    have c4b0 : decide (x11_1 < (l0.length : Int)) = true := decide_eq_true c4
    clear c4
    by_cases c5 : 0 ≤ x11_1
    ·rw [if_pos c5] at H
     have c5b0 : decide (0 ≤ x11_1) = true := decide_eq_true c5
     clear c5
     by_cases c6 : x11_1 < (l0.length : Int)
     ·rw [if_pos c6] at H
      have c6b0 : decide (x11_1 < (l0.length : Int)) = true := decide_eq_true c6
      clear c6
      obtain ⟨t295, A7, H⟩ := oH H
      by_cases c8 : t295 = true
      ·subst c8
       replace H := iT H
       have H' := aM H
       clear H
       have p294 : 0 ≤ (x11_1 : Int) := zA
       have q294 : x11_1 < (l0.length : Int) := zA
       obtain ⟨ad294, e294, hx294_0⟩ := Kd.at_int HR0.out x11_1 p294 q294
       cases e294
       replace p294 := eq_true p294
       replace q294 := eq_true q294
       go_wp2_with (first | (go_at_call 28; (with_reducible refine (impl_within.calls (rd l0 x11_1) a1 a2 true _ A7.out).mono ?_); rintro e w' ⟨rfl, ⟨nd, rfl⟩⟩))
       go_roundg k1
       case measure => have := HK1.out; omega
       case rel => exact ⟨(wrap64 (x11_1 + 1)), zS, H', ⟨by have := HK1.out; omega⟩, by repeat (first | exact Drawn0.refl _ | apply Drawn0.step)⟩
      ·replace c8 := Bool.eq_false_iff.mpr c8
       subst c8
       replace H := iF H
       obtain rfl := Option.some.inj H
       have p294 : 0 ≤ (x11_1 : Int) := zA
       have q294 : x11_1 < (l0.length : Int) := zA
       obtain ⟨ad294, e294, hx294_0⟩ := Kd.at_int HR0.out x11_1 p294 q294
       cases e294
       replace p294 := eq_true p294
       replace q294 := eq_true q294
       go_wp2_with (first | (go_at_call 28; (with_reducible refine (impl_within.calls (rd l0 x11_1) a1 a2 false _ A7.out).mono ?_); rintro e w' ⟨rfl, ⟨nd, rfl⟩⟩))
       go_ret
       exact ⟨by first | rfl | (simp; done) | (simp [*]; done), by repeat (first | exact Drawn0.refl _ | apply Drawn0.step)⟩
     ·rw [if_neg c6] at H
      exact absurd H (by simp)
    ·rw [if_neg c5] at H
     exact absurd H (by simp)
   ·rw [if_neg c4] at H
    have c4b0 : decide (x11_1 < (l0.length : Int)) = false := decide_eq_false c4
    clear c4
    obtain rfl := Option.some.inj H
    go_wp2
    go_ret
    exact ⟨by first | rfl | (simp; done) | (simp [*]; done), by repeat (first | exact Drawn0.refl _ | apply Drawn0.step)⟩

theorem allWithin_l0 (lo up : Int) (l : List Int) (hl : l.length ≤ maxLen) : ∀ (d i : Nat), i + d = l.length → Ev (fun k => impl_allWithin.l0 k lo up l (l.length : Int) i) (allR (l.drop i) lo up) := by
  unfold maxLen at hl
  intro d
  induction d with
  | zero =>
    intro i hi
    refine Ev.step (fun k => by rw [impl_allWithin.l0]) ?_
    rw [List.drop_eq_nil_of_le (by omega)]
    exact evNeg (by omega) (Ev.now true)
  | succ d ih =>
    intro i hi
    have h1 : i < l.length := by omega
    refine Ev.step (fun k => by rw [impl_allWithin.l0]) ?_
    refine evPos (by omega) (evPos (by omega) (evPos (by omega) ?_))
    rw [drop_get h1, rd_nat h1, within_f]
    simp only [Option.bind_some, allR, List.all_cons]
    cases inR l[i] lo up with
    | false => exact evNeg (by simp) (Ev.now false)
    | true =>
      refine evPos rfl ?_
      rw [w64 (by omega) (by omega)]
      exact ih (i + 1) (by omega)
theorem allWithin_f (l : List Int) (lo hi : Int) (hl : l.length ≤ maxLen) : Ev (fun k => impl_allWithin.f k l lo hi) (allR l lo hi) := by
  have := allWithin_l0 lo hi l hl l.length 0 (by omega)
  simpa [impl_allWithin.f] using this

/-! ### impl_TableOk: function 26 -/
def impl_TableOk.f (k : Nat) (l0 : List Int) : Option (Bool) := if (l0.length : Int) = 64 then ((impl_allWithin.f k l0 1 1023).bind fun t296 => (some t296)) else (some false)
theorem impl_TableOk.mono : ∀ a0 k, LeO (impl_TableOk.f k a0) (impl_TableOk.f (k + 1) a0) := by
 intro a0 k
 unfold impl_TableOk.f
 repeat' first
   | (with_reducible exact impl_allWithin.mono _ _ _ _)
   | (with_reducible exact LeO.refl _)
   | (with_reducible exact LeO.none _)
   | (with_reducible refine LeO.ite ?_ ?_)
   | (with_reducible refine LeO.bind ?_ (fun _ => ?_))
   | exact impl_allWithin.mono _ _ _ _
   | exact LeO.none _
   | refine LeO.ite ?_ ?_
   | refine LeO.bind ?_ (fun _ => ?_)
set_option maxHeartbeats 8000000 in
set_option maxRecDepth 100000 in
theorem impl_TableOk.calls (k : Nat) (A0 : Option Addr) (c0 : Nat) (l0 : List Int) (r : Bool) (w : World) (hr0 : Kd.C (Kd.int .i64) w A0 l0.length l0) (hc0 : l0.length ≤ c0) (h : impl_TableOk.f k l0 = some r) :
  Calls Try.prog 26 #[.slice A0 l0.length c0] w fun e w' => e = .returned (.bool r) ∧ Drawn0 w w' := by
 have HR0 := aM hr0
 have HC0 := aM hc0
 clear hr0 hc0
 have H : (if (l0.length : Int) = 64 then ((impl_allWithin.f k l0 1 1023).bind fun t296 => (some t296)) else (some false)) = some r := h
 clear h
 by_cases c2 : (l0.length : Int) = 64
 ·rw [if_pos c2] at H
  have c2b0 : ((l0.length : Int) == 64) = true := beq_iff_eq.mpr c2
  have c2b1 : ((l0.length : Int) != 64) = false := bne_eq_false_iff_eq.mpr c2
  clear c2
  obtain ⟨t296, A3, H⟩ := oH H
  obtain rfl := Option.some.inj H
  go_enter Try.func26, Try.ntmps26
  go_wp2_with (first | (go_at_call 50; (with_reducible refine (impl_allWithin.calls k _ _ l0 1 1023 t296 _ ?side1 ?side2 A3.out).mono ?_); (case side1 => exact zC HR0.out); (case side2 => exact HC0.out); rintro e w' ⟨rfl, ⟨nd, rfl⟩⟩))
  go_ret
  exact ⟨by first | rfl | (simp; done) | (simp [*]; done), by repeat (first | exact Drawn0.refl _ | apply Drawn0.step)⟩
 ·rw [if_neg c2] at H
  have c2b0 : ((l0.length : Int) == 64) = false := beq_eq_false_iff_ne.mpr c2
  have c2b1 : ((l0.length : Int) != 64) = true := bne_iff_ne.mpr c2
  obtain rfl := Option.some.inj H
  go_enter Try.func26, Try.ntmps26
  go_wp2
  go_ret
  exact ⟨by first | rfl | (simp; done) | (simp [*]; done), by repeat (first | exact Drawn0.refl _ | apply Drawn0.step)⟩

/-! ### impl_isWhole_1: function 74 (by hand) -/
/-- Where the first row lies that a test takes; -1 if there is none. -/
def idxU {α : Type} (p : α → Bool) : List α → Nat → Int
  | [], _ => -1
  | x :: xs, i => if p x = true then (i : Int) else idxU p xs (i + 1)
theorem idxU_none {α : Type} (p : α → Bool) : ∀ (l : List α) (i : Nat), l.any p = false → idxU p l i = -1
  | [], _, _ => rfl
  | x :: xs, i, h => by
    rw [List.any_cons, Bool.or_eq_false_iff] at h
    rw [idxU, h.1, if_neg (by simp)]
    exact idxU_none p xs (i + 1) h.2
theorem idxU_nonneg {α : Type} (p : α → Bool) : ∀ (l : List α) (i : Nat), decide (0 ≤ idxU p l i) = l.any p
  | [], _ => rfl
  | x :: xs, i => by
    rw [idxU, List.any_cons]
    cases h : p x with
    | true => rw [if_pos rfl]; simp
    | false => rw [if_neg (by simp), Bool.false_or]; exact idxU_nonneg p xs (i + 1)
theorem idxU_at {α : Type} (p : α → Bool) : ∀ (l : List α) (i k : Nat) (hk : k < l.length), (∀ j (hj : j < l.length), j < k → p l[j] = false) → p l[k] = true → idxU p l i = ((i + k : Nat) : Int)
  | [], _, k, hk, _, _ => by simp at hk
  | x :: xs, i, 0, _, _, h => by
    have h2 : p x = true := h
    rw [idxU, if_pos h2]
    simp
  | x :: xs, i, k + 1, hk, h0, h => by
    have hx : p x = false := h0 0 (by simp) (by omega)
    rw [idxU, hx, if_neg (by simp)]
    have := idxU_at p xs (i + 1) k (by simpa using hk) (fun j hj hjk => h0 (j + 1) (by simpa using hj) (by omega)) h
    rw [this, show i + 1 + k = i + (k + 1) from by omega]
set_option maxHeartbeats 8000000 in
set_option maxRecDepth 100000 in
theorem indexFunc_Rows (cl : Nat) (lb : Array Value) (p : List Int → Bool) (A : Option Addr) (c : Nat) (l : List (List Int)) (W : World) (hr : Kd.C (Kd.slice 3 (Kd.int .i64)) W A l.length l)
    (eg : ∀ args w, (callFunc cl args).run Try.prog w = .ok (.enter cl args) w)
    (hp : ∀ (W' : World) (Ab : Option Addr) (cb : Nat) (b : List Int), Below W.heap.size W W' → Kd.C (Kd.int .i64) W' Ab b.length b → b.length ≤ cb → Calls Try.prog cl (#[.slice Ab b.length cb] ++ lb) W' fun e w' => e = .returned (.bool (p b)) ∧ Below W.heap.size W w') :
    Calls Try.prog 49 #[.slice A l.length c, .func (.func cl) #[] lb] W fun e w' => e = .returned (.int .i64 (idxU p l 0)) ∧ Below W.heap.size W w' := by
  have hmax := Kd.C_max hr
  have HR := Aside0.mk hr
  have HP := Aside0.mk hp
  clear hr hp
  have HB := Aside0.mk (Below.refl W.heap.size W)
  go_enter Try.func49, Try.ntmps49
  go_wp2
  go_loopg [5, 8] l.length (fun gg _ s8 wr => ∃ kk : Nat, kk ≤ l.length ∧ l.length - kk ≤ gg ∧ s8 = .int .i64 (kk : Int) ∧ Aside0 (Below W.heap.size W wr) ∧ Aside0 (∀ j (hj : j < l.length), j < kk → p l[j] = false))
  case atStart => exact ⟨0, Nat.zero_le _, by omega, rfl, HB, ⟨fun j _ hj => absurd hj (Nat.not_lt_zero _)⟩⟩
  case round =>
    clear HB
    obtain ⟨kk, hkk, hg, rfl, BW, AN⟩ := hrel
    by_cases hlt : kk < l.length
    · have hltz : (kk : Int) < (l.length : Int) := by omega
      have h0z : (0 : Int) ≤ (kk : Int) := by omega
      have d1 : decide ((kk : Int) < (l.length : Int)) = true := decide_eq_true hltz
      have d2 : decide ((0 : Int) ≤ (kk : Int)) = true := decide_eq_true h0z
      obtain ⟨ad, A1, c1, e1, hx0, hl1, hi1⟩ := at_L2 (Kd.C_below HR.out BW.out) (kk : Int) h0z hltz
      cases e1
      rw [Int.toNat_natCast] at hx0
      have EY : Aside0 (rd_L2 l (kk : Int) = l[kk]) := ⟨by simp [rd_L2, List.getD, hlt]⟩
      obtain ⟨xe, hxe⟩ : ∃ xe : List Int, xe = rd_L2 l (kk : Int) := ⟨_, rfl⟩
      rw [← hxe] at hx0 hl1 hi1
      have EX := Aside0.mk hxe
      clear hxe
      have hcall := HP.out wr A1 c1 xe BW.out hi1 hl1
      clear hi1 hl1
      cases hq : p xe with
      | true =>
        rw [hq] at hcall
        have HQ := Aside0.mk hq
        clear hq
        go_wp2_with (go_at_fn cl; refine hcall.mono ?_; rintro e w' ⟨rfl, hb'⟩)
        go_ret
        refine ⟨?_, hb'⟩
        have hh := HQ.out
        rw [EX.out, EY.out] at hh
        have := idxU_at p l 0 kk hlt AN.out hh
        rw [Nat.zero_add] at this
        rw [this]
        rfl
      | false =>
        rw [hq] at hcall
        have HQ := Aside0.mk hq
        clear hq
        go_wp2_with (go_at_fn cl; refine hcall.mono ?_; rintro e w' ⟨rfl, hb'⟩)
        go_roundg (l.length - (kk + 1))
        case measure => omega
        case rel =>
          refine ⟨kk + 1, by omega, by omega, by go_num, ⟨hb'⟩, ⟨fun j hj hjk => ?_⟩⟩
          by_cases e : j = kk
          · subst e
            have hh := HQ.out
            rwa [EX.out, EY.out] at hh
          · exact AN.out j hj (by omega)
    · have d1 : decide ((kk : Int) < (l.length : Int)) = false := decide_eq_false (by omega)
      go_wp2
      go_ret
      refine ⟨?_, BW.out⟩
      rw [idxU_none p l 0 (by
        rw [List.any_eq_false]
        intro x hx
        obtain ⟨j, hj, rfl⟩ := List.getElem_of_mem hx
        rw [AN.out j hj (by omega)]
        simp)]
      rfl
set_option maxHeartbeats 8000000 in
set_option maxRecDepth 100000 in
theorem containsFunc_Rows (cl : Nat) (lb : Array Value) (p : List Int → Bool) (A : Option Addr) (c : Nat) (l : List (List Int)) (W : World) (hr : Kd.C (Kd.slice 3 (Kd.int .i64)) W A l.length l)
    (eg : ∀ args w, (callFunc cl args).run Try.prog w = .ok (.enter cl args) w)
    (hp : ∀ (W' : World) (Ab : Option Addr) (cb : Nat) (b : List Int), Below W.heap.size W W' → Kd.C (Kd.int .i64) W' Ab b.length b → b.length ≤ cb → Calls Try.prog cl (#[.slice Ab b.length cb] ++ lb) W' fun e w' => e = .returned (.bool (p b)) ∧ Below W.heap.size W w') :
    Calls Try.prog 24 #[.slice A l.length c, .func (.func cl) #[] lb] W fun e w' => e = .returned (.bool (l.any p)) ∧ Below W.heap.size W w' := by
  have HR := Aside0.mk hr
  have HP := Aside0.mk hp
  clear hr hp
  rw [← idxU_nonneg p l 0]
  go_enter Try.func24, Try.ntmps24
  go_wp2_with (go_at_call 49; refine (indexFunc_Rows cl lb p A c l _ HR.out eg HP.out).mono ?_; rintro e w' ⟨rfl, hb'⟩)
  go_ret
  exact ⟨rfl, hb'⟩
set_option maxHeartbeats 8000000 in
set_option maxRecDepth 100000 in
theorem isWhole1_one (A : Option Addr) (c : Nat) (b : List Int) (w W : World) (hb : Below w.heap.size w W) (hr : Kd.C (Kd.int .i64) W A b.length b) (hc : b.length ≤ c) :
    Calls Try.prog 74 (#[.slice A b.length c] ++ #[]) W fun e w' => e = .returned (.bool (!(allR b 0 0))) ∧ Below w.heap.size w w' := by
  obtain ⟨k, hk⟩ := (allWithin_f b 0 0 (by have := hr.2.1; unfold maxLen; omega)).rounds
  have HC := Aside0.mk (impl_allWithin.calls k A c b 0 0 _ W hr hc hk)
  have HB := Aside0.mk hb
  clear hr hc hb hk
  generalize allR b 0 0 = t at HC ⊢
  go_enter Try.func74, Try.ntmps74
  go_wp2_with (first | (go_at_call 50; (with_reducible refine HC.out.mono ?_); rintro e w' ⟨rfl, ⟨nd, rfl⟩⟩))
  go_ret
  exact ⟨by first | rfl | (cases t <;> rfl), by repeat (first | exact HB.out | apply below_alloc | apply pw_below_drewN | apply below_drew1)⟩
def impl_isWhole_1.f (l : List (List Int)) : Option Bool := some (l.any fun b => !(allR b 0 0))
theorem impl_isWhole_1.calls (A : Option Addr) (c : Nat) (l : List (List Int)) (r : Bool) (w : World) (hr : Kd.C (Kd.slice 3 (Kd.int .i64)) w A l.length l) (_hc : l.length ≤ c) (h : impl_isWhole_1.f l = some r) :
  Calls Try.prog 24 #[.slice A l.length c, .func (.func 74) #[] #[]] w fun e w' => e = .returned (.bool r) ∧ Below w.heap.size w w' := by
 obtain rfl := Option.some.inj h
 exact containsFunc_Rows 74 #[] (fun b => !(allR b 0 0)) A c l w hr (enters_of Try.func74 (by kernel_rfl) rfl) (fun W' Ab cb b hb hr hc => isWhole1_one Ab cb b w W' hb hr hc)

/-! ### impl_StreamOk_1: function 25 (by hand) -/
/-- Whether a row is a table that is ok. -/
def tabB (l : List Int) : Bool := decide ((l.length : Int) = 64) && allR l 1 1023
theorem iTableOk_f (l : List Int) : Ev (fun k => impl_TableOk.f k l) (tabB l) := by
  unfold impl_TableOk.f tabB
  refine evIf (fun h => ?_) (fun h => ?_)
  · rw [decide_eq_true h, Bool.true_and]
    exact evBind (allWithin_f l _ _ (by unfold maxLen; omega)) (Ev.now _)
  · rw [decide_eq_false h, Bool.false_and]
    exact Ev.now _
set_option maxHeartbeats 8000000 in
set_option maxRecDepth 100000 in
theorem streamOk1_one (A : Option Addr) (c : Nat) (b : List Int) (w W : World) (hb : Below w.heap.size w W) (hr : Kd.C (Kd.int .i64) W A b.length b) (hc : b.length ≤ c) :
    Calls Try.prog 25 (#[.slice A b.length c] ++ #[]) W fun e w' => e = .returned (.bool (!(tabB b))) ∧ Below w.heap.size w w' := by
  obtain ⟨k, hk⟩ := (iTableOk_f b).rounds
  have HC := Aside0.mk (impl_TableOk.calls k A c b _ W hr hc hk)
  have HB := Aside0.mk hb
  clear hr hc hb hk
  generalize tabB b = t at HC ⊢
  go_enter Try.func25, Try.ntmps25
  go_wp2_with (first | (go_at_call 26; (with_reducible refine HC.out.mono ?_); rintro e w' ⟨rfl, ⟨nd, rfl⟩⟩))
  go_ret
  exact ⟨by first | rfl | (cases t <;> rfl), by repeat (first | exact HB.out | apply below_alloc | apply pw_below_drewN | apply below_drew1)⟩
def impl_StreamOk_1.f (l : List (List Int)) : Option Bool := some (l.any fun b => !(tabB b))
theorem impl_StreamOk_1.calls (A : Option Addr) (c : Nat) (l : List (List Int)) (r : Bool) (w : World) (hr : Kd.C (Kd.slice 3 (Kd.int .i64)) w A l.length l) (_hc : l.length ≤ c) (h : impl_StreamOk_1.f l = some r) :
  Calls Try.prog 24 #[.slice A l.length c, .func (.func 25) #[] #[]] w fun e w' => e = .returned (.bool r) ∧ Below w.heap.size w w' := by
 obtain rfl := Option.some.inj h
 exact containsFunc_Rows 25 #[] (fun b => !(tabB b)) A c l w hr (enters_of Try.func25 (by kernel_rfl) rfl) (fun W' Ab cb b hb hr hc => streamOk1_one Ab cb b w W' hb hr hc)

end Go.Proofs.Ytpcfjobojdldnaa.CV
