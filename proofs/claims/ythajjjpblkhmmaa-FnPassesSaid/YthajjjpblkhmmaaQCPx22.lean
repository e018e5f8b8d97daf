/- Functions that a law of this seat reaches: written by a program of this session (wip/xprint.py), and by hand. -/
import Derived.Test.YthajjjpblkhmmaaQMac
import Derived.Test.YthajjjpblkhmmaaQCPx0
import Derived.Test.YthajjjpblkhmmaaQCPx1
import Derived.Test.YthajjjpblkhmmaaQCPx2
import Derived.Test.YthajjjpblkhmmaaQCPx3
import Derived.Test.YthajjjpblkhmmaaQCPx4
import Derived.Test.YthajjjpblkhmmaaQCPx5
import Derived.Test.YthajjjpblkhmmaaQCPx6
import Derived.Test.YthajjjpblkhmmaaQCPx7
import Derived.Test.YthajjjpblkhmmaaQCPx8
import Derived.Test.YthajjjpblkhmmaaQCPx10
import Derived.Test.YthajjjpblkhmmaaQCPx12
import Derived.Test.YthajjjpblkhmmaaQCPx14
import Derived.Test.YthajjjpblkhmmaaQCPx17
import Derived.Test.YthajjjpblkhmmaaQCPx18
import Derived.Test.YthajjjpblkhmmaaQCPx20
import Derived.Test.YthajjjpblkhmmaaQCPx21
namespace Go.Proofs.Ythajjjpblkhmmaa.CP
open Go.RowKit Go.Proofs.Ythajjjpblkhmmaa.B Go.Proofs.YthajjjpblkhmmaaW.PrintWords Go.Proofs.YthajjjpblkhmmaaW.PrintLast Go.Proofs.YthajjjpblkhmmaaW.PrintMore
attribute [local go_sem] max2_int min2_int max_two min_two max_three min_three max_four min_four   -- for this text's walks alone
set_option linter.unusedVariables false
set_option linter.unusedSimpArgs false

theorem firstI_len (b : List Int) (f t h l : Int) : (firstI b f t h l).length ≤ 64 := by
  unfold firstI
  split
  · rename_i h
    obtain ⟨p1, p2, p3, p4, p5, _⟩ := pass_bounds h.2.1
    rw [firstN_length]
    omega
  · simp
/-- What a number is to the bits that are told. -/
def wantI (L y : Int) : Int := if 0 ≤ L then cutI y L * 2 ^ L.toNat else 0
theorem want_bd {L y : Int} (h : -16383 ≤ y ∧ y ≤ 16383) (h1 : L ≤ 13) : (-16383 ≤ wantI L y ∧ wantI L y ≤ 16383) ∧ (0 ≤ y → 0 ≤ wantI L y ∧ wantI L y ≤ y) ∧ (y < 0 → y ≤ wantI L y ∧ wantI L y ≤ 0) := by
  unfold wantI
  by_cases h0 : 0 ≤ L
  · rw [if_pos h0]
    obtain ⟨p1, p2⟩ := pow_13 L h0 h1
    unfold cutI
    generalize (2 : Int) ^ L.toNat = P at p1 p2 ⊢
    by_cases hy : y < 0
    · rw [if_pos hy]
      have a1 := Int.ediv_mul_le (-y) (b := P) (by omega)
      have a2 : 0 ≤ (-y) / P * P := Int.mul_nonneg (Int.ediv_nonneg (by omega) (by omega)) (by omega)
      rw [Int.neg_mul]
      omega
    · rw [if_neg hy]
      have a1 := Int.ediv_mul_le y (b := P) (by omega)
      have a2 : 0 ≤ y / P * P := Int.mul_nonneg (Int.ediv_nonneg (by omega) (by omega)) (by omega)
      omega
  · rw [if_neg h0]
    omega
theorem and1 {x : Int} (h0 : 0 ≤ x) (h1 : x < 4611686018427387904) : Go.bits .and .i64 x 1 = x % 2 :=
  bits_mask .i64 62 (by decide) (fun n a b => by rw [IntKind.wrap_i64]; omega) 1 (by decide) x h0 h1
theorem ref_core {P q : Int} (hP : 1 ≤ P) (h0 : 0 ≤ q) : q / 2 * (2 * P) + q % 2 * P = q * P ∧ 0 ≤ q / 2 * (2 * P) ∧ (¬ q / 2 = 0 → 1 ≤ q / 2 * (2 * P)) := by
  have e : q * P = (2 * (q / 2) + q % 2) * P := by rw [Int.mul_ediv_add_emod]
  have u0 : 0 ≤ q / 2 := Int.ediv_nonneg h0 (by omega)
  refine ⟨?_, Int.mul_nonneg u0 (by omega), fun hn => ?_⟩
  · rw [e, Int.add_mul, Int.mul_left_comm, Int.mul_assoc]
  · have := Int.mul_le_mul (show (1 : Int) ≤ q / 2 by omega) (show (1 : Int) ≤ 2 * P by omega) (by omega) u0
    omega
/-- A bit more. -/
theorem ref_new {y l : Int} (hy : -16383 ≤ y ∧ y ≤ 16383) (h0 : 0 ≤ l) (h1 : l ≤ 12) :
    newV (wantI (l + 1) y) (refB y l (l + 1)) l = wantI l y ∧ okB (wantI (l + 1) y) (refB y l (l + 1)) l = true := by
  have hb := want_bd (L := l) hy (by omega)
  rw [okB_iff]
  have e1 : (2 : Int) ^ (l + 1).toNat = 2 * 2 ^ l.toNat := by
    rw [show (l + 1).toNat = l.toNat + 1 from by omega, Int.pow_succ, Int.mul_comm]
  have hs : ∀ x : Int, shr .i64 x l = x / 2 ^ l.toNat := fun x => shr_of h0 (by omega)
  obtain ⟨p1, p2⟩ := pow_13 l h0 (by omega)
  have ew : wantI (l + 1) y = cutI y (l + 1) * 2 ^ (l + 1).toNat := by unfold wantI; rw [if_pos (by omega)]
  have ew2 : wantI l y = cutI y l * 2 ^ l.toNat := by unfold wantI; rw [if_pos h0]
  unfold refB newV
  rw [hs, ew]
  rw [ew2] at hb ⊢
  unfold cutI at hb ⊢
  unfold absI
  rw [e1]
  generalize (2 : Int) ^ l.toNat = P at p1 p2 hb ⊢
  by_cases hn : y < 0
  · simp only [if_pos hn] at hb ⊢
    have hd : (-y) / (2 * P) = (-y) / P / 2 := by rw [Int.mul_comm, Int.ediv_ediv_of_nonneg (by omega)]
    have q0 : 0 ≤ (-y) / P := Int.ediv_nonneg (by omega) (by omega)
    have q1 : (-y) / P ≤ 16383 := Int.le_trans (Int.ediv_le_self _ (by omega)) (by omega)
    rw [hd]
    generalize (-y) / P = q at q0 q1 hb ⊢
    rw [and1 q0 (by omega)]
    obtain ⟨c1, c2, c3⟩ := ref_core p1 q0
    have r0 : 0 ≤ q % 2 ∧ q % 2 ≤ 1 := by omega
    have i1 : (if y < 0 ∧ -(q / 2) = 0 then wrap64 (-(q % 2)) else q % 2) = if q / 2 = 0 then -(q % 2) else q % 2 := by
      by_cases hz : q / 2 = 0
      · rw [if_pos ⟨hn, by omega⟩, if_pos hz, w64 (by omega) (by omega)]
      · rw [if_neg (fun h => hz (by have := h.2; omega)), if_neg hz]
    rw [i1]
    simp only [Int.neg_mul] at hb ⊢
    by_cases hz : q / 2 = 0
    · simp only [if_pos hz]
      have hV : q / 2 * (2 * P) = 0 := by rw [hz, Int.zero_mul]
      rw [hV] at c1 ⊢
      simp only [Int.neg_zero, Int.lt_irrefl, if_false, Int.neg_mul, Int.zero_add] at c1 ⊢
      generalize q * P = Q at c1 hb ⊢
      generalize q % 2 * P = R at c1 ⊢
      exact ⟨by omega, by omega, .inr trivial, by omega, by omega⟩
    · have c4 := c3 hz
      simp only [if_neg hz]
      generalize q / 2 * (2 * P) = V at c1 c2 c4 ⊢
      rw [if_pos (show -V < 0 by omega)]
      simp only [Int.neg_mul]
      generalize q * P = Q at c1 hb ⊢
      generalize q % 2 * P = R at c1 ⊢
      omega
  · simp only [if_neg hn] at hb ⊢
    have hd : y / (2 * P) = y / P / 2 := by rw [Int.mul_comm, Int.ediv_ediv_of_nonneg (by omega)]
    have q0 : 0 ≤ y / P := Int.ediv_nonneg (by omega) (by omega)
    have q1 : y / P ≤ 16383 := Int.le_trans (Int.ediv_le_self _ (by omega)) (by omega)
    rw [hd]
    generalize y / P = q at q0 q1 hb ⊢
    rw [and1 q0 (by omega)]
    have i1 : (if y < 0 ∧ q / 2 = 0 then wrap64 (-(q % 2)) else q % 2) = q % 2 := if_neg (fun h => hn h.1)
    rw [i1]
    obtain ⟨c1, c2, c3⟩ := ref_core p1 q0
    have r0 : 0 ≤ q % 2 ∧ q % 2 ≤ 1 := by omega
    generalize q / 2 * (2 * P) = V at c1 c2 c3 ⊢
    rw [if_neg (by omega)]
    generalize q * P = Q at c1 hb ⊢
    generalize q % 2 * P = R at c1 ⊢
    omega
/-- A block to the bits that are told, each place of the zigzag its own. -/
def nowL (Ls b : List Int) : List Int := mapR (fun p => wantI (rd Ls (zi p : Int)) (rd b (p : Int)))
theorem now_nums {Ls b : List Int} (hb : numsB b (-16383) 16383 = true) (hL : ∀ k : Nat, k < 64 → rd Ls (k : Int) ≤ 13) : numsB (nowL Ls b) (-16383) 16383 = true :=
  mapR_all fun p hp => (want_bd (nums_rd hb (by omega) (by omega) _) (hL _ (zi_all hp).1)).1
theorem firstN_rd (z : List Int) (f low : Int) {m j : Nat} (h : j < m) : rd (firstN z f low m) (j : Int) = cutI (rd z (f + j)) low := by
  rw [rd_nat (by rw [firstN_length]; exact h)]
  simp [firstN]
theorem refN_rd (z : List Int) (f low high : Int) {m j : Nat} (h : j < m) : rd (refN z f low high m) (j : Int) = refB (rd z (f + j)) low high := by
  rw [rd_nat (by rw [refN_length]; exact h)]
  simp [refN]
theorem toZ_zi (b : List Int) {p : Nat} (hp : p < 64) : rd (toZ b) (zi p : Int) = rd b (p : Int) := by
  rw [toZ_rd b (zi p) (zi_all hp).1, (zi_all hp).2]
theorem put_now {b : List Int} (hb : numsB b (-16383) 16383 = true) {f t l : Int} (hp : passB f t 0 l = true) {Ls Ls' : List Int} (hL : ∀ k : Nat, k < 64 → rd Ls (k : Int) ≤ 13)
    (hLs : ∀ k : Nat, k < 64 → rd Ls' (k : Int) = if f ≤ (k : Int) ∧ (k : Int) ≤ t then l else rd Ls (k : Int)) : putI (nowL Ls b) f t 0 l (firstI b f t 0 l) = nowL Ls' b := by
  obtain ⟨a1, a2, a3, a4, a5, _⟩ := pass_bounds hp
  have hfi : firstI b f t 0 l = firstN (toZ b) f l (t - f + 1).toNat := by unfold firstI; rw [if_pos ⟨hb, hp, rfl⟩]
  have hw : ∀ y : Int, wantI l y = cutI y l * 2 ^ l.toNat := fun y => by unfold wantI; rw [if_pos a4]
  have hz : ∀ j : Int, -16383 ≤ rd (toZ b) j ∧ rd (toZ b) j ≤ 16383 := fun j => by
    have h1 : numsB (toZ b) (-16383) 16383 = true := by
      rw [toZ_mapR]
      exact mapR_all fun p hp => by
        rw [toZ_rd b p hp]
        exact nums_rd hb (by omega) (by omega) _
    exact nums_rd h1 (by omega) (by omega) j
  have hall : (firstN (toZ b) f l (t - f + 1).toNat).all (fun n => putB n l) = true := by
    rw [List.all_eq_true]
    intro n hn
    simp only [firstN, List.mem_map, List.mem_range] at hn
    obtain ⟨j, hj, rfl⟩ := hn
    have c1 := cut_range (n := rd (toZ b) (f + j)) (low := l)
    have c2 := hz (f + j)
    rw [putB_iff]
    refine ⟨?_, ?_⟩
    · by_cases hy : rd (toZ b) (f + j) < 0
      · rw [if_pos hy, if_pos hy] at c1; omega
      · rw [if_neg hy, if_neg hy] at c1; omega
    · rw [← hw]
      exact (want_bd c2 (by omega)).1
  rw [hfi]
  unfold putI
  rw [if_pos ⟨now_nums hb hL, hp, rfl, by rw [firstN_length]; omega, hall⟩, firstN_length]
  refine mapR_congr fun p hp => ?_
  unfold putF
  obtain ⟨z1, z2⟩ := zi_all hp
  rw [hLs _ z1]
  by_cases hr : f ≤ (zi p : Int) ∧ (zi p : Int) ≤ t
  · rw [if_pos ⟨hr.1, by omega⟩, if_pos hr, show (zi p : Int) - f = (((zi p : Int) - f).toNat : Int) from by omega, firstN_rd _ _ _ (by omega), show f + ((((zi p : Int) - f).toNat : Nat) : Int) = (zi p : Int) from by omega, toZ_zi b hp, hw]
  · rw [if_neg (fun h => hr ⟨h.1, by omega⟩), if_neg hr]
    exact mapR_rd _ hp
theorem ref_now {b : List Int} (hb : numsB b (-16383) 16383 = true) {f t l : Int} (hp : passB f t (l + 1) l = true) {Ls Ls' : List Int} (hL : ∀ k : Nat, k < 64 → rd Ls (k : Int) ≤ 13)
    (hLs : ∀ k : Nat, k < 64 → rd Ls' (k : Int) = if f ≤ (k : Int) ∧ (k : Int) ≤ t then l else rd Ls (k : Int)) (hLh : ∀ k : Nat, k < 64 → f ≤ (k : Int) → (k : Int) ≤ t → rd Ls (k : Int) = l + 1) (hl12 : l ≤ 12) :
    prI (nowL Ls b) f t (l + 1) l (refI b f t (l + 1) l) = nowL Ls' b := by
  obtain ⟨a1, a2, a3, a4, a5, _⟩ := pass_bounds hp
  have hri : refI b f t (l + 1) l = refN (toZ b) f l (l + 1) (t - f + 1).toNat := by unfold refI; rw [if_pos ⟨hb, hp, by omega⟩]
  have hz : ∀ j : Int, -16383 ≤ rd (toZ b) j ∧ rd (toZ b) j ≤ 16383 := fun j => by
    have h1 : numsB (toZ b) (-16383) 16383 = true := by
      rw [toZ_mapR]
      exact mapR_all fun p hp => by
        rw [toZ_rd b p hp]
        exact nums_rd hb (by omega) (by omega) _
    exact nums_rd h1 (by omega) (by omega) j
  have hnow : ∀ j : Nat, j < 64 → rd (toZ (nowL Ls b)) (j : Int) = wantI (rd Ls (j : Int)) (rd (toZ b) (j : Int)) := fun j hj => by
    have zz := zz_rd j hj
    rw [toZ_rd _ j hj, toZ_rd b j hj]
    obtain ⟨q, hq⟩ : ∃ q : Nat, rd zzL (j : Int) = (q : Int) := ⟨(rd zzL (j : Int)).toNat, by omega⟩
    have h1 := zz_zi hj
    rw [hq] at h1 zz ⊢
    rw [Int.toNat_natCast] at h1
    unfold nowL
    rw [mapR_rd _ (by omega), h1]
  have hok : okAll (nowL Ls b) (refN (toZ b) f l (l + 1) (t - f + 1).toNat) f l = true := by
    unfold okAll
    rw [List.all_eq_true, refN_length]
    intro m hm
    rw [List.mem_range] at hm
    unfold okAt
    rw [refN_rd _ _ _ _ hm, show f + (m : Int) = ((f.toNat + m : Nat) : Int) from by omega, hnow _ (by omega), hLh _ (by omega) (by omega) (by omega)]
    exact (ref_new (hz _) a4 hl12).2
  rw [hri]
  unfold prI
  rw [if_pos ⟨now_nums hb hL, hp, by omega, by rw [refN_length]; omega, hok⟩, refN_length]
  refine mapR_congr fun p hp => ?_
  unfold prF
  obtain ⟨z1, z2⟩ := zi_all hp
  rw [hLs _ z1]
  have hv : rd (nowL Ls b) (p : Int) = wantI (rd Ls (zi p : Int)) (rd b (p : Int)) := mapR_rd _ hp
  by_cases hr : f ≤ (zi p : Int) ∧ (zi p : Int) ≤ t
  · rw [if_pos ⟨hr.1, by omega⟩, if_pos hr, hv, hLh _ z1 hr.1 hr.2, show (zi p : Int) - f = (((zi p : Int) - f).toNat : Int) from by omega, refN_rd _ _ _ _ (by omega), show f + ((((zi p : Int) - f).toNat : Nat) : Int) = (zi p : Int) from by omega, toZ_zi b hp]
    have := hz (zi p : Int)
    rw [toZ_zi b hp] at this
    exact (ref_new this a4 hl12).1
  · rw [if_neg (fun h => hr ⟨h.1, by omega⟩), if_neg hr]
    exact hv
theorem now_at {Ls b : List Int} {j : Nat} (hj : j < 64) : rd (toZ (nowL Ls b)) (j : Int) = wantI (rd Ls (j : Int)) (rd (toZ b) (j : Int)) := by
  have zz := zz_rd j hj
  rw [toZ_rd _ j hj, toZ_rd b j hj]
  obtain ⟨q, hq⟩ : ∃ q : Nat, rd zzL (j : Int) = (q : Int) := ⟨(rd zzL (j : Int)).toNat, by omega⟩
  have h1 := zz_zi hj
  rw [hq] at h1 zz ⊢
  rw [Int.toNat_natCast] at h1
  unfold nowL
  rw [mapR_rd _ (by omega), h1]
/-- The comparison behind a pass. -/
theorem passes_l2 {b : List Int} (hb : numsB b (-16383) 16383 = true) (J : List S28) (i : Int) (l : List S42) (Ls : List Int) (hlen : Ls.length = 64) (hL : ∀ k : Nat, k < 64 → rd Ls (k : Int) ≤ 13)
    (next : Ev (fun k => laws_FnPasses.l1 k b J (nowL Ls b) (wrap64 (i + 1)) 8 8 8 0 l) true) : ∀ (d k : Nat), k + d = 64 → Ev (fun n => laws_FnPasses.l2 n b J (nowL Ls b) i [Ls] (toZ (nowL Ls b)) (toZ b) k 8 8 8 0 l) true := by
  intro d
  induction d with
  | zero =>
    intro k hk
    refine Ev.step (fun n => by rw [laws_FnPasses.l2]) (evNeg (by omega) ?_)
    exact Ev.step (fun n => by rw [laws_FnPasses.j5]) (evNeg (by simp) next)
  | succ d ih =>
    intro k hk
    have hn := ih (k + 1) (by omega)
    have hz : -16383 ≤ rd (toZ b) (k : Int) ∧ rd (toZ b) (k : Int) ≤ 16383 := by
      rw [toZ_rd b k (by omega)]
      exact nums_rd hb (by omega) (by omega) _
    have hr : rd_L3 [Ls] 0 = Ls := rfl
    have hw := now_at (Ls := Ls) (b := b) (j := k) (by omega)
    have hLk := hL k (by omega)
    refine Ev.step (fun n => by rw [laws_FnPasses.l2]) (evPos (by omega) ?_)
    refine Ev.step (fun n => by rw [laws_FnPasses.j5]) (evPos (by rw [toZ_length]; rfl) (evPos (by simp) (evPos (by omega) ?_)))
    rw [hr, show (k : Int) + 1 = ((k + 1 : Nat) : Int) from by omega, w64n (by omega), hw]
    refine evPos (by omega) (evIf (fun h0 => ?_) (fun h0 => ?_))
    · have hs : shl .i64 (shr .i64 (if rd (toZ b) (k : Int) < 0 then -rd (toZ b) (k : Int) else rd (toZ b) (k : Int)) (rd Ls (k : Int))) (rd Ls (k : Int)) = (if rd (toZ b) (k : Int) < 0 then -rd (toZ b) (k : Int) else rd (toZ b) (k : Int)) / 2 ^ (rd Ls (k : Int)).toNat * 2 ^ (rd Ls (k : Int)).toNat := by
        have hq : ∀ x : Int, 0 ≤ x → x ≤ 16383 → shl .i64 (shr .i64 x (rd Ls (k : Int))) (rd Ls (k : Int)) = x / 2 ^ (rd Ls (k : Int)).toNat * 2 ^ (rd Ls (k : Int)).toNat := fun x x0 x1 => by
          rw [shr_of h0 (by omega)]
          obtain ⟨p1, p2⟩ := pow_13 _ h0 hLk
          exact (shl_mul _ _ ⟨by have := Int.ediv_nonneg x0 (b := 2 ^ (rd Ls (k : Int)).toNat) (by omega); omega, by have := Int.ediv_le_self (2 ^ (rd Ls (k : Int)).toNat) x0; omega⟩ h0 hLk).1
        split
        · exact hq _ (by omega) (by omega)
        · exact hq _ (by omega) (by omega)
      refine evPos (by rw [toZ_length]; omega) (evBind (evConst (labs_f (by omega) (by omega))) (evPos h0 ?_))
      rw [hs]
      unfold wantI cutI
      rw [if_pos h0]
      refine evIf (fun hn0 => ?_) (fun hn0 => ?_)
      · rw [if_pos hn0, if_pos hn0]
        refine evPos (by rw [toZ_length]; omega) (evPos ?_ hn)
        have := (want_bd (L := rd Ls (k : Int)) hz hLk).1
        unfold wantI cutI at this
        rw [if_pos h0, if_pos hn0, Int.neg_mul] at this
        rw [Int.neg_mul, w64 (by omega) (by omega)]
      · rw [if_neg hn0, if_neg hn0]
        exact evPos (by rw [toZ_length]; omega) (evPos rfl hn)
    · unfold wantI
      rw [if_neg (by omega)]
      exact evPos (by rw [toZ_length]; omega) (evPos rfl hn)
theorem passes_step {b : List Int} (hb : numsB b (-16383) 16383 = true) (J : List S28) (hJ : J.length ≤ 1000) (i : Nat) (hi : i < J.length) (l : List S42) (f t h lo : Int) (hs : rd_T28 J (i : Int) = ⟨[0], f, t, h, lo⟩) (hp : passB f t h lo = true) (hlo : lo ≤ 12) (Ls Ls' : List Int) (hlen : Ls'.length = 64)
    (hL : ∀ k : Nat, k < 64 → rd Ls (k : Int) ≤ 13) (hL' : ∀ k : Nat, k < 64 → rd Ls' (k : Int) ≤ 13) (hLs : ∀ k : Nat, k < 64 → rd Ls' (k : Int) = if f ≤ (k : Int) ∧ (k : Int) ≤ t then lo else rd Ls (k : Int))
    (hLh : ¬ h = 0 → ∀ k : Nat, k < 64 → f ≤ (k : Int) → (k : Int) ≤ t → rd Ls (k : Int) = lo + 1)
    (hleft : Ev (fun k => spec_LeftOf.f k 8 8 8 0 l (J.take (i + 1))) [Ls'])
    (next : Ev (fun k => laws_FnPasses.l1 k b J (nowL Ls' b) ((i + 1 : Nat) : Int) 8 8 8 0 l) true) : Ev (fun k => laws_FnPasses.l1 k b J (nowL Ls b) (i : Int) 8 8 8 0 l) true := by
  obtain ⟨a1, a2, a3, a4, a5, a6⟩ := pass_bounds hp
  have ei : wrap64 ((i : Int) + 1) = ((i + 1 : Nat) : Int) := by rw [w64 (by omega) (by omega)]; omega
  have j3 : ∀ now : List Int, now = nowL Ls' b → Ev (fun k => laws_FnPasses.j3 k b J now (i : Int) 8 8 8 0 l) true := fun now e => by
    subst e
    refine Ev.step (fun k => by rw [laws_FnPasses.j3]) ?_
    rw [ei, Int.toNat_natCast]
    refine evPos (by omega) (evPos (by omega) (evBind hleft ?_))
    refine evBind (sToZig_f _ (nums_of (now_nums hb hL') (by omega) (by omega))) (evBind (sToZig_f _ (nums_of hb (by omega) (by omega))) ?_)
    exact passes_l2 hb J (i : Int) l Ls' hlen hL' (by rw [ei]; exact next) 64 0 (by omega)
  refine Ev.step (fun k => by rw [laws_FnPasses.l1]) (evPos (by omega) (evPos (by omega) ?_))
  rw [hs]
  refine evIf (fun h0 => ?_) (fun h0 => ?_)
  · replace h0 : h = 0 := h0
    subst h0
    refine evBind (iFirstOf_f b [0] f t 0 lo) (evBind (sFirstOf_f b [0] f t 0 lo) (evBind (sameInts_f _ (by have := firstI_len b f t 0 lo; omega)) (evPos rfl (evBind (iPutFirst_f (nowL Ls b) [0] f t 0 lo _ (by have := firstI_len b f t 0 lo; omega)) ?_))))
    exact j3 _ (put_now hb hp hL hLs)
  · replace h0 : ¬ h = 0 := h0
    obtain rfl : h = lo + 1 := by omega
    refine evBind (iRefineOf_f b [0] f t (lo + 1) lo) (evBind (sRefineOf_f b [0] f t (lo + 1) lo) (evBind (sameInts_f _ (by have := refI_length b f t (lo + 1) lo; omega)) (evPos rfl (evBind (iPutRefine_f (nowL Ls b) [0] f t (lo + 1) lo _ (by have := refI_length b f t (lo + 1) lo; omega)) ?_))))
    exact j3 _ (ref_now hb hp hL hLs (hLh h0) hlo)
theorem now_start (b : List Int) : nowL (List.replicate 64 (-1)) b = List.replicate 64 0 := by
  have h : nowL (List.replicate 64 (-1)) b = mapR (fun _ => 0) := mapR_congr fun p hp => by
    have z := (zi_all hp).1
    rw [rd_nat (by rw [List.length_replicate]; exact z), List.getElem_replicate]
    unfold wantI
    rw [if_neg (by omega)]
  rw [h]
  decide
theorem now_end {b : List Int} (hb : numsB b (-16383) 16383 = true) : nowL (List.replicate 64 0) b = b := by
  have h : nowL (List.replicate 64 0) b = mapR (fun p => rd b (p : Int)) := mapR_congr fun p hp => by
    have z := (zi_all hp).1
    rw [rd_nat (by rw [List.length_replicate]; exact z), List.getElem_replicate]
    have hc : ∀ y : Int, wantI 0 y = y := fun y => by
      unfold wantI cutI
      by_cases hy : y < 0
      · simp [hy]
      · simp [hy]
    exact hc _
  rw [h]
  exact mapR_self (nums_len hb)
theorem passes_end {b : List Int} (hb : numsB b (-16383) 16383 = true) (J : List S28) (n : Nat) (hn : n = J.length) (l : List S42) : Ev (fun k => laws_FnPasses.l1 k b J (nowL (List.replicate 64 0) b) (n : Int) 8 8 8 0 l) true := by
  rw [now_end hb]
  refine Ev.step (fun k => by rw [laws_FnPasses.l1]) (evNeg (by omega) (evBind (sameInts_f b (by have := nums_len hb; omega)) (Ev.now _)))
def passS1 : List S28 := [⟨[0], 0, 63, 0, 0⟩]
def passS2 : List S28 := [⟨[0], 0, 0, 0, 1⟩, ⟨[0], 1, 5, 0, 2⟩, ⟨[0], 6, 63, 0, 2⟩, ⟨[0], 1, 63, 2, 1⟩, ⟨[0], 0, 0, 1, 0⟩, ⟨[0], 1, 63, 1, 0⟩]
def passC : List S42 := [⟨0, 1, 1, 0⟩]
theorem passS_0 : Ev (fun k => spec_ScriptFor.f k 8 8 8 0 passC 0) passS1 := Ev.of (g := fun k => spec_ScriptFor.f k 8 8 8 0 passC 0) (fun k => spec_ScriptFor.mono _ _ _ _ _ _ k) (k := 40) (by kernel_rfl)
theorem passS_1 : Ev (fun k => spec_ScriptFor.f k 8 8 8 0 passC 1) passS1 := Ev.of (g := fun k => spec_ScriptFor.f k 8 8 8 0 passC 1) (fun k => spec_ScriptFor.mono _ _ _ _ _ _ k) (k := 40) (by kernel_rfl)
theorem passS_2 : Ev (fun k => spec_ScriptFor.f k 8 8 8 0 passC 2) passS2 := Ev.of (g := fun k => spec_ScriptFor.f k 8 8 8 0 passC 2) (fun k => spec_ScriptFor.mono _ _ _ _ _ _ k) (k := 40) (by kernel_rfl)
theorem leftEv (J : List S28) (Ls : List Int) (h : spec_LeftOf.f 500 8 8 8 0 passC J = some [Ls]) : Ev (fun k => spec_LeftOf.f k 8 8 8 0 passC J) [Ls] := Ev.of (g := fun k => spec_LeftOf.f k 8 8 8 0 passC J) (fun k => spec_LeftOf.mono _ _ _ _ _ _ k) h
theorem pass1_all {b : List Int} (hb : numsB b (-16383) 16383 = true) : Ev (fun k => laws_FnPasses.l1 k b passS1 (List.replicate 64 0) 0 8 8 8 0 passC) true := by
  rw [← now_start b]
  exact passes_step hb passS1 (by decide) 0 (by decide) passC 0 63 0 0 rfl rfl (by decide) _ (List.replicate 64 0) (by decide) (by decide +kernel) (by decide +kernel) (by decide +kernel) (fun h => absurd rfl h) (leftEv _ _ (by kernel_rfl)) (passes_end hb passS1 1 rfl passC)
def lf1 : List Int := 1 :: List.replicate 63 (-1)
def lf2 : List Int := 1 :: (List.replicate 5 2 ++ List.replicate 58 (-1))
def lf3 : List Int := 1 :: List.replicate 63 2
def lf4 : List Int := List.replicate 64 1
def lf5 : List Int := 0 :: List.replicate 63 1
theorem pass2_all {b : List Int} (hb : numsB b (-16383) 16383 = true) : Ev (fun k => laws_FnPasses.l1 k b passS2 (List.replicate 64 0) 0 8 8 8 0 passC) true := by
  rw [← now_start b]
  refine passes_step hb passS2 (by decide) 0 (by decide) passC 0 0 0 1 rfl rfl (by decide) _ lf1 (by decide) (by decide +kernel) (by decide +kernel) (by decide +kernel) (fun h => absurd rfl h) (leftEv _ _ (by kernel_rfl)) ?_
  refine passes_step hb passS2 (by decide) 1 (by decide) passC 1 5 0 2 rfl rfl (by decide) _ lf2 (by decide) (by decide +kernel) (by decide +kernel) (by decide +kernel) (fun h => absurd rfl h) (leftEv _ _ (by kernel_rfl)) ?_
  refine passes_step hb passS2 (by decide) 2 (by decide) passC 6 63 0 2 rfl rfl (by decide) _ lf3 (by decide) (by decide +kernel) (by decide +kernel) (by decide +kernel) (fun h => absurd rfl h) (leftEv _ _ (by kernel_rfl)) ?_
  refine passes_step hb passS2 (by decide) 3 (by decide) passC 1 63 2 1 rfl (by decide +kernel) (by decide) _ lf4 (by decide) (by decide +kernel) (by decide +kernel) (by decide +kernel) (fun _ => by decide +kernel) (leftEv _ _ (by kernel_rfl)) ?_
  refine passes_step hb passS2 (by decide) 4 (by decide) passC 0 0 1 0 rfl (by decide +kernel) (by decide) _ lf5 (by decide) (by decide +kernel) (by decide +kernel) (by decide +kernel) (fun _ => by decide +kernel) (leftEv _ _ (by kernel_rfl)) ?_
  exact passes_step hb passS2 (by decide) 5 (by decide) passC 1 63 1 0 rfl (by decide +kernel) (by decide) _ (List.replicate 64 0) (by decide) (by decide +kernel) (by decide +kernel) (by decide +kernel) (fun _ => by decide +kernel) (leftEv _ _ (by kernel_rfl)) (passes_end hb passS2 6 rfl passC)
theorem passes_l0 (more : List Int) (hm : CodeOk more) (b : List Int) (hbl : b.length ≤ 1000) : ∀ (d i : Nat) (ok : Bool), i + d = b.length → (ok = true → b.length = 64 ∧ ∀ y ∈ b.take i, -16383 ≤ y ∧ y ≤ 16383) → EvP (fun k => laws_FnPasses.l0 k more b ok (i : Int)) (fun r => r = true) := by
  intro d
  induction d with
  | zero =>
    intro i ok hi hok
    refine evpStep (fun k => by rw [laws_FnPasses.l0]) (evpNeg (by omega) (evpIf (fun h => ?_) (fun _ => evpNow rfl rfl)))
    obtain ⟨h1, h2⟩ := hok h
    rw [List.take_of_length_le (by omega)] at h2
    have hb : numsB b (-16383) 16383 = true := by
      rw [numsB, Bool.and_eq_true, decide_eq_true_eq]
      refine ⟨by omega, ?_⟩
      unfold allR
      rw [List.all_eq_true]
      exact fun y hy => inR_iff.2 (h2 y hy)
    refine evpBind (evpNow (r := passC) rfl rfl) (fun y hy => ?_)
    subst hy
    refine evpBind (lpickP more hm 0 3 (by omega) (by omega) (by omega) (by omega)) (fun kd hk => ?_)
    have h3 : kd = 0 ∨ kd = 1 ∨ kd = 2 := by omega
    rcases h3 with rfl | rfl | rfl
    · exact evpBind (evpOf passS_0 rfl) (fun J hJ => evpPos (by omega) (by subst hJ; exact evpOf (pass1_all hb) rfl))
    · exact evpBind (evpOf passS_1 rfl) (fun J hJ => evpPos (by omega) (by subst hJ; exact evpOf (pass1_all hb) rfl))
    · exact evpBind (evpOf passS_2 rfl) (fun J hJ => evpPos (by omega) (by subst hJ; exact evpOf (pass2_all hb) rfl))
  | succ d ih =>
    intro i ok hi hok
    have ei : wrap64 ((i : Int) + 1) = ((i + 1 : Nat) : Int) := by rw [w64 (by omega) (by omega)]; omega
    refine evpStep (fun k => by rw [laws_FnPasses.l0]) (evpPos (by omega) (evpIf (fun h => evpPos (by omega) (evpIf (fun h1 => ?_) (fun h1 => ?_))) (fun h => ?_)))
    · rw [ei]
      refine ih (i + 1) _ (by omega) (fun h2 => ?_)
      rw [decide_eq_true_eq] at h2
      obtain ⟨h3, h4⟩ := hok h
      refine ⟨h3, fun y hy => ?_⟩
      rw [List.take_succ_eq_append_getElem (by omega), List.mem_append, List.mem_singleton] at hy
      rcases hy with hy | rfl
      · exact h4 y hy
      · rw [rd_nat (by omega)] at h1 h2
        omega
    · rw [ei]
      exact ih (i + 1) false (by omega) (fun h2 => absurd h2 (by simp))
    · rw [ei]
      exact ih (i + 1) false (by omega) (fun h2 => absurd h2 (by simp))
theorem pure_Passes : laws_FnPasses.Pure := by
  intro code more hq hm
  refine Ev.rounds (g := fun k => laws_FnPasses.f k code more) ?_
  unfold laws_FnPasses.f
  refine evBind (evConst (big_f code)) (evIf (fun _ => Ev.step (fun k => by rw [laws_FnPasses.j0]) (evPos rfl (Ev.now _))) (fun hb => ?_))
  refine evBind (evConst (big_f more)) (Ev.step (fun k => by rw [laws_FnPasses.j0]) (evIf (fun _ => Ev.now _) (fun hb2 => ?_)))
  have hc : CodeOk code := ⟨by have := of_decide_eq_false (Bool.eq_false_iff.2 hb); omega, fun y hy => wf8 (hq.2 y hy)⟩
  have hc2 : CodeOk more := ⟨by have := of_decide_eq_false (Bool.eq_false_iff.2 hb2); omega, fun y hy => wf8 (hm.2 y hy)⟩
  obtain ⟨r, hr, hrl⟩ := drawFirstP code hc
  refine evBind hr ?_
  obtain ⟨v, hv, rfl⟩ := passes_l0 more hc2 r.1 (by omega) r.1.length 0 ((r.1.length : Int) == 64) (by omega) (fun h => ⟨by have := beq_iff_eq.1 h; omega, by simp⟩)
  exact hv

end Go.Proofs.Ythajjjpblkhmmaa.CP
