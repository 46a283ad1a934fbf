/- RatioMirrors answers true. -/
import Derived.Test.YtjkchmegnfbfoaaGreatDoorProg
import Derived.Test.YtjkchmegnfbfoaaGreatDoorQ09
namespace Go.Proofs.YtjkchmegnfbfoaaGreatDoor
open Go Go.RowKit
set_option linter.unusedSimpArgs false
set_option linter.unusedVariables false
set_option maxRecDepth 100000
set_option exponentiation.threshold 3000

theorem fits_zero : Fits 0 := Fits.small (by decide) (by decide)
theorem of_zero : Ans 14 #[.int .i64 0] (ratV false 0 false 1) := fun w => by
  have := rOf_at ((0 : Nat) : Int) false 0 (fun w => Of_nat 0 (by decide) w) w
  exact this
theorem zsub (x : Rat) : 0 - x = -x := by grind
theorem sub0 (x : Rat) (f : Fits x) : AnsT 22 #[ratV false 0 false 1, qV x] (.tuple #[qV (-x), .int .i64 0]) := fun w hT => by
  have := cSub_yes 0 x fits_zero f (by rw [zsub]; exact neg_fits x f) w hT
  rwa [zsub] at this
def zrt : Rt := ⟨false, 0, false, 1, B4_pos, Nat.lt_trans (by decide) B4_big⟩
theorem sub0_bad (r : Rt) (h : r.ok = false) : AnsT 22 #[ratV false 0 false 1, r.v] (.tuple #[ratV false 0 false 0, .int .i64 2]) := fun w _ => by
  have := Sub_bad zrt r h w
  rwa [qZ_eq] at this
theorem sub0_ok (r : Rt) (h : r.ok = true) : AnsT 22 #[ratV false 0 false 1, r.v] (.tuple #[qV (-r.q), .int .i64 0]) := by
  have := sub0 r.q (Rt.q_fits r h)
  rwa [← Rt.v_q r h] at this
theorem floor_le (x : Rat) : (floorQ x).natAbs ≤ x.num.natAbs := by
  unfold floorQ
  have hd := x.den_pos
  have h1 := Int.mul_ediv_add_emod x.num (x.den : Int)
  have h2 := Int.emod_nonneg x.num (show (x.den : Int) ≠ 0 by omega)
  have h3 := Int.emod_lt_of_pos x.num (show 0 < (x.den : Int) by omega)
  rcases (by omega : x.num < 0 ∨ 0 ≤ x.num) with hn | hn
  · have h4 : x.num / (x.den : Int) < 0 := Int.ediv_neg_of_neg_of_pos hn (by omega)
    have h5 : x.num ≤ x.num / (x.den : Int) := by
      refine Int.le_ediv_of_mul_le (by omega) ?_
      have h6 := Int.mul_nonneg_of_nonpos_of_nonpos (Int.le_of_lt hn) (show (1 : Int) - (x.den : Int) ≤ 0 by omega)
      rw [Int.mul_sub] at h6; omega
    omega
  · have h4 : 0 ≤ x.num / (x.den : Int) := Int.ediv_nonneg hn (by omega)
    have h5 : x.num / (x.den : Int) ≤ x.num := Int.ediv_le_self _ hn
    omega
theorem floor_sum (x : Rat) : floorQ x + floorQ (-x) = if x.den = 1 then 0 else -1 := by
  unfold floorQ
  rw [Rat.neg_num, Rat.neg_den]
  split
  · rename_i h; rw [h]; simp
    omega
  · rename_i h
    have hd := x.den_pos
    have hnd : ¬ (x.den : Int) ∣ x.num := by
      intro hdv
      have h1 : x.den ∣ x.num.natAbs := by simpa using Int.natAbs_dvd_natAbs.2 hdv
      have h2 := Nat.dvd_gcd h1 (Nat.dvd_refl x.den)
      rw [show Nat.gcd x.num.natAbs x.den = 1 from x.reduced] at h2
      exact h (Nat.dvd_one.1 h2)
    have h1 := Int.mul_ediv_add_emod x.num (x.den : Int)
    have h2 := Int.emod_nonneg x.num (show (x.den : Int) ≠ 0 by omega)
    have h3 := Int.emod_lt_of_pos x.num (show 0 < (x.den : Int) by omega)
    have h4 : x.num % (x.den : Int) ≠ 0 := fun e => hnd (Int.dvd_of_emod_eq_zero e)
    generalize x.num / (x.den : Int) = q at *
    generalize x.num % (x.den : Int) = r at *
    have e : -x.num = ((x.den : Int) - r) + (x.den : Int) * (-q - 1) := by
      rw [Int.mul_sub, Int.mul_neg]; omega
    rw [e, Int.add_mul_ediv_left _ _ (by omega), Int.ediv_eq_zero_of_lt (by omega) (by omega)]; omega
theorem cmpQ_neg (x y : Rat) : cmpQ (-y) (-x) = cmpQ x y := by
  unfold cmpQ
  have h1 : -y < -x ↔ x < y := by grind
  have h2 : -y = -x ↔ x = y := by grind
  simp only [h1, h2]
theorem mirrors_true (a b : Rt) (w : World) (hT : Tab w) :
    Calls Tryz.prog 6 #[a.v, b.v] w fun e w' => e = .returned (.bool true) ∧ Ext w w' := by
  cases ha : a.ok with
  | false =>
    cases hb : b.ok with
    | false => exact Mirrors_bad a b _ _ _ _ _ _ _ _ _ _ _ 2 2 (by decide) (by decide) (by decide) of_zero (sub0_bad a ha) (sub0_bad b hb) w hT
    | true => exact Mirrors_bad a b _ _ _ _ _ _ _ _ _ _ _ 2 0 (by decide) (by decide) (by decide) of_zero (sub0_bad a ha) (sub0_ok b hb) w hT
  | true =>
    cases hb : b.ok with
    | false => exact Mirrors_bad a b _ _ _ _ _ _ _ _ _ _ _ 0 2 (by decide) (by decide) (by decide) of_zero (sub0_ok a ha) (sub0_bad b hb) w hT
    | true =>
      have fp := Rt.q_fits a ha
      have fq := Rt.q_fits b hb
      have vp := Rt.v_q a ha
      have vq := Rt.v_q b hb
      obtain ⟨hnum, hden, hat, _, _⟩ := Rt.q_parts a ha
      have np := neg_fits _ fp
      have nq := neg_fits _ fq
      have hsum : -a.q + -b.q = -(a.q + b.q) := by grind
      have hmul : -a.q * b.q = -(a.q * b.q) := by grind
      obtain ⟨ss, ms, ks, g1, cs, hs⟩ : ∃ ss ms ks g1, AnsT 21 #[a.v, b.v] (.tuple #[ratV ss ms false ks, .int .i64 g1]) ∧ (g1 = 0 → ratV ss ms false ks = qV (a.q + b.q) ∧ Fits (a.q + b.q)) := by
        rw [vp, vq]
        by_cases f : Fits (a.q + b.q)
        · exact ⟨_, _, _, 0, fun w hT => cAdd_yes _ _ fp fq f w hT, fun _ => ⟨rfl, f⟩⟩
        · exact ⟨false, 0, 0, 110, fun w hT => by have := cAdd_no _ _ fp fq f w hT; rwa [qZ_eq] at this, fun h => absurd h (by decide)⟩
      obtain ⟨sp, mp, kp, g2, cp, hp⟩ : ∃ ss ms ks g1, AnsT 23 #[a.v, b.v] (.tuple #[ratV ss ms false ks, .int .i64 g1]) ∧ (g1 = 0 → ratV ss ms false ks = qV (a.q * b.q) ∧ Fits (a.q * b.q)) := by
        rw [vp, vq]
        by_cases f : Fits (a.q * b.q)
        · exact ⟨_, _, _, 0, fun w hT => cMul_yes _ _ fp fq f w hT, fun _ => ⟨rfl, f⟩⟩
        · exact ⟨false, 0, 0, 110, fun w hT => by have := cMul_no _ _ fp fq f w hT; rwa [qZ_eq] at this, fun h => absurd h (by decide)⟩
      have b1 : (floorQ a.q).natAbs < B4 := Nat.lt_of_le_of_lt (floor_le _) fp.1
      have b2 : (floorQ (-a.q)).natAbs < B4 := Nat.lt_of_le_of_lt (floor_le _) np.1
      have hfs := floor_sum a.q
      have b3 : (floorQ a.q + floorQ (-a.q)).natAbs < B4 := by rw [hfs]; split <;> exact Nat.lt_trans (by decide) B4_big
      refine Mirrors_good a b false 0 1 _ _ _ _ _ _ _ _ ss ms ks g1 _ _ _ _ _ _ sp mp kp g2 _ _ _ _ _ _ (cmpQ a.q b.q) _ _ _ _ _ _ hat of_zero (sub0_ok a ha) (sub0_ok b hb) cs
        (fun h w hT => cAdd_yes _ _ np nq (by rw [hsum]; exact neg_fits _ (hs h).2) w hT)
        (fun h => by rw [hsum]; have := sub0 _ (neg_fits _ (hs h).2); exact this)
        (fun h => by rw [(hs h).1]; exact eqT_q _ _ (neg_fits _ (neg_fits _ (hs h).2)) (hs h).2 (by grind))
        cp (fun h w hT => by rw [vq]; exact cMul_yes _ _ np fq (by rw [hmul]; exact neg_fits _ (hp h).2) w hT)
        (fun h => by rw [hmul]; have := sub0 _ (neg_fits _ (hp h).2); exact this)
        (fun h => by rw [(hp h).1]; exact eqT_q _ _ (neg_fits _ (neg_fits _ (hp h).2)) (hp h).2 (by grind))
        (fun w => by rw [vp, vq]; exact cCmp _ _ fp fq w) (fun w => by rw [← cmpQ_neg]; exact cCmp _ _ nq np w)
        (fun w => by rw [vp]; exact cFloor _ fp w) (fun w => cFloor _ np w)
        (fun w b cap i1 i2 => Add2_yes _ _ b1 b2 b3 w b cap i1 i2)
        (fun w => Of_nat 1 (by decide) w) (fun w => Of_nat 0 (by decide) w) (fun w => Of_neg 1 (by decide) (by decide) w) ?_ ?_ w hT
      · intro h w
        have e : floorQ a.q + floorQ (-a.q) = 0 := by rw [hfs, if_pos (by rw [hden]; exact h)]
        rw [e, run_eq_int _ _ _ _ (by simpa using B4_pos) B4_pos]; simp
      · intro h w
        have e : floorQ a.q + floorQ (-a.q) = -1 := by rw [hfs, if_neg (by rw [hden]; exact h)]
        rw [e, run_eq_int _ _ _ _ (Nat.lt_trans (by decide) B4_big) (Nat.lt_trans (by decide) B4_big)]; simp
end Go.Proofs.YtjkchmegnfbfoaaGreatDoor
