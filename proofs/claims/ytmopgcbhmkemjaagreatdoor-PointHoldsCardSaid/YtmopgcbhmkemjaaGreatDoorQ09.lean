/- whole of the laws; Make of the program over rationals. The references' fractions: sums, products, quotients. The references' fractions: differences, signs, the fraction of a word, of a Rat; may a Rat be; the whole number below. The points' references: half; is a fraction not too great for a point. A fraction opened. The points' references: the point of a node. Results that hold a Point. The points' references: the api.Point; the laws' at. The parts of a text: the iterator. The parts of a text; a text's beginning. The parts of a point's text: the iterator. A text cut at the stroke. The Rat of a text with a stroke. No Int's text: the empty one. A text without a stroke, cut. The Rat of a text without a stroke; of the empty text. The Rat of the empty text: none. -/
import Derived.Test.YtmopgcbhmkemjaaGreatDoorProg
import Derived.Test.YtmopgcbhmkemjaaGreatDoorQ08
import Derived.Test.YtmopgcbhmkemjaaGreatDoorQ03
import Derived.Test.YtmopgcbhmkemjaaGreatDoorQ06
import Derived.Test.YtmopgcbhmkemjaaGreatDoorQ04
import Derived.Test.YtmopgcbhmkemjaaGreatDoorQ07
import Derived.Test.YtmopgcbhmkemjaaGreatDoorQ05
import Derived.Scope
namespace Go.Proofs.YtmopgcbhmkemjaaGreatDoor
open Go Go.RowKit
set_option linter.unusedSimpArgs false
set_option linter.unusedVariables false
set_option maxRecDepth 100000
set_option exponentiation.threshold 3000

theorem divInt_sv (x y : Int) (h0 : y ≠ 0) : mkRat (sv (!(decide (x < 0) == decide (y < 0))) x.natAbs) y.natAbs = Rat.divInt x y := by
  rcases Int.lt_or_gt_of_ne h0 with h | h
  · obtain ⟨d, rfl⟩ : ∃ d : Nat, y = -(d : Int) := ⟨y.natAbs, by omega⟩
    rw [show decide (-(d : Int) < 0) = true by simp; omega, divInt_neg', show (!(decide (x < 0) == true)) = !(decide (x < 0)) by cases decide (x < 0) <;> rfl, sv_not, sv_of, Int.natAbs_neg, Int.natAbs_natCast]
  · obtain ⟨d, rfl⟩ : ∃ d : Nat, y = (d : Int) := ⟨y.toNat, by omega⟩
    rw [show decide ((d : Int) < 0) = false by simp, Rat.divInt_ofNat, show (!(decide (x < 0) == false)) = decide (x < 0) by cases decide (x < 0) <;> rfl, sv_of, Int.natAbs_natCast]
theorem mkRat_fits (z : Int) (d : Nat) (hd : d ≠ 0) (h1 : z.natAbs < B4) (h2 : d < B4) : Fits (mkRat z d) := by
  refine ⟨?_, ?_⟩
  · rw [mk_abs z d hd]; exact Nat.lt_of_le_of_lt (Nat.div_le_self _ _) h1
  · rw [(mk_parts z d hd).2]; exact Nat.lt_of_le_of_lt (Nat.div_le_self _ _) h2
theorem divInt_fits (x y : Int) (h0 : y ≠ 0) (h1 : x.natAbs < B4) (h2 : y.natAbs < B4) : Fits (Rat.divInt x y) := by
  rw [← divInt_sv x y h0]
  exact mkRat_fits _ _ (by omega) (by rw [sv_natAbs]; exact h1) h2
theorem B49 : B4 + B4 ≤ B9 := by decide
theorem neg_dec (Q : Nat) : decide (-(Q : Int) < 0) = !decide (Q = 0) := by
  by_cases h : Q = 0
  · simp [h]
  · simp [h]; omega
theorem nat_dec (Q : Nat) : decide ((Q : Int) < 0) = false := by simp
/-- The greatest whole number below. -/
def floorQ (x : Rat) : Int := x.num / (x.den : Int)
end Go.Proofs.YtmopgcbhmkemjaaGreatDoor

namespace Go.Proofs.YtmopgcbhmkemjaaGreatDoor
open Go Go.RowKit
set_option linter.unusedSimpArgs false
set_option linter.unusedVariables false
set_option maxRecDepth 100000
set_option exponentiation.threshold 3000

theorem quo_all : QuoOK (2 ^ 520) := fun x y hx hy h0 v1 v2 w h1 h2 => by
  by_cases h : (dg x.natAbs).length ≤ 3 ∧ (dg y.natAbs).length ≤ 3
  · exact bQuo_short x y v1 v2 h.1 h.2 h0 w h1 h2
  · have hb : ∀ n, n < 2 ^ 520 → (dg n).length ≤ 1000 := fun n hn => Nat.le_trans ((dg_len_le n 100).2 (Nat.lt_of_lt_of_le hn (by decide))) (by omega)
    exact bQuo_long x y v1 v2 (hb _ hx) (hb _ hy) h h0 w h1 h2
theorem small_lt {x : Int} (h : x.natAbs < 2 ^ 520) : Small x := small_of (Nat.le_refl _) h
theorem len_lt {x : Int} (h : x.natAbs < 2 ^ 520) : (dg x.natAbs).length ≤ 100000 := small_lt h
theorem B4_520 : B4 < 2 ^ 520 := by decide
theorem B44_512 : B4 * B4 = 2 ^ 512 := by decide
theorem fit_lt {z : Int} (h : z.natAbs < B4) : z.natAbs < 2 ^ 520 := Nat.lt_trans h B4_520
theorem prod_lt {a b : Int} (ha : a.natAbs < B4) (hb : b.natAbs < B4) : (a * b).natAbs < 2 ^ 512 := by
  rw [Int.natAbs_mul, ← B44_512]; exact Nat.mul_lt_mul'' ha hb
theorem p512 : (2 : Nat) ^ 512 + 2 ^ 512 ≤ 2 ^ 520 := by decide
theorem prod_lt' {a b : Int} (ha : a.natAbs < B4) (hb : b.natAbs < B4) : (a * b).natAbs < 2 ^ 520 := Nat.lt_of_lt_of_le (prod_lt ha hb) (by decide)
theorem sum520 {a b : Int} (ha : a.natAbs < 2 ^ 512) (hb : b.natAbs < 2 ^ 512) : (a + b).natAbs < 2 ^ 520 := by have := p512; omega
theorem den_fit {x : Rat} (h : Fits x) : ((x.den : Int)).natAbs < B4 := by simpa using h.2
theorem add_div (x y : Rat) : Rat.divInt (x.num * y.den + y.num * x.den) ((x.den : Int) * y.den) = x + y := by
  rw [← Int.natCast_mul, Rat.divInt_ofNat, add_mk]
theorem mul_div (x y : Rat) : Rat.divInt (x.num * y.num) ((x.den : Int) * y.den) = x * y := by
  rw [← Int.natCast_mul, Rat.divInt_ofNat, mul_mk]
theorem div_div (x y : Rat) (h : y ≠ 0) : Rat.divInt (x.num * y.den) ((x.den : Int) * y.num) = x / y := by
  rw [Rat.div_def, Rat.inv_def, ← Rat.divInt_mul_divInt, Rat.num_divInt_den]
theorem den_prod_ne (x y : Rat) : ((x.den : Int) * y.den) ≠ 0 := Int.mul_ne_zero (by have := x.den_nz; omega) (by have := y.den_nz; omega)
set_option maxHeartbeats 8000000 in
theorem fAdd (x y : Rat) (v1 v2 : Value) (fx : Fits x) (fy : Fits y) (w : World) (h1 : FrQ w v1 x) (h2 : FrQ w v2 y) :
    Calls Tryz.prog 24 #[v1, v2] w (RetB (fun W r => FrQ W r (x + y)) w) := by
  have M1 := fun p q w h1 h2 => bMul x.num y.den p q (len_lt (fit_lt fx.1)) (len_lt (fit_lt (den_fit fy))) w h1 h2
  have M2 := fun p q w h1 h2 => bMul y.num x.den p q (len_lt (fit_lt fy.1)) (len_lt (fit_lt (den_fit fx))) w h1 h2
  have M3 := fun p q w h1 h2 => bMul x.den y.den p q (len_lt (fit_lt (den_fit fx))) (len_lt (fit_lt (den_fit fy))) w h1 h2
  have AD := fun p q w h1 h2 => bAdd (x.num * y.den) (y.num * x.den) p q (small_lt (prod_lt' fx.1 (den_fit fy))) (small_lt (prod_lt' fy.1 (den_fit fx))) w h1 h2
  have MK := fun p q w h1 h2 => fMake (2 ^ 520) (Nat.le_refl _) quo_all (x.num * y.den + y.num * x.den) ((x.den : Int) * y.den) p q (sum520 (prod_lt fx.1 (den_fit fy)) (prod_lt fy.1 (den_fit fx))) (prod_lt' (den_fit fx) (den_fit fy)) (den_prod_ne x y) w h1 h2
  rw [add_div] at MK
  generalize x + y = z at *
  obtain ⟨s11, a11, n11, c11, s12, a12, n12, c12, rfl, VA, VB⟩ := h1
  obtain ⟨s13, a13, n13, c13, s14, a14, n14, c14, rfl, VC, VD⟩ := h2
  generalize x.num = xn at *
  generalize y.num = yn at *
  generalize (x.den : Int) = xd at *
  generalize (y.den : Int) = yd at *
  go_enter Tryz.func24, Tryz.ntmps24
  go_wp2
  refine wp_rebase fun v hv => ?_
  have hx : Ext w v := by rw [hv]; exact ext_auto
  have BA : Blk v w.heap.size #[.bool s11, .slice a11 n11 c11, .bool s12, .slice a12 n12 c12] 44 := by rw [hv]; exact blk_auto
  have BB : Blk v (w.heap.size + 1) #[.bool s13, .slice a13 n13 c13, .bool s14, .slice a14 n14 c14] 44 := by rw [hv]; exact blk_auto
  have BO : Blk v (w.heap.size + 1 + 1) #[.bool false, .slice none 0 0, .bool false, .slice none 0 0] 44 := by rw [hv]; exact blk_auto
  clear hv
  have lBA := BA.lt; have cBA := BA.cell; have fBA := BA.frozen; have lBB := BB.lt; have cBB := BB.cell; have fBB := BB.frozen; have lBO := BO.lt; have cBO := BO.cell; have fBO := BO.frozen
  replace VA := VA.ext hx; replace VB := VB.ext hx; replace VC := VC.ext hx; replace VD := VD.ext hx
  (first | refine wp_region_h' 17 [0, 1, 2, 3, 5, 6, 7, 8, 11, 12, 13, 14] [4, 9, 10, 15, 16] (by kernel_rfl) (by kernel_rfl) ?_ | refine wp_region_h 17 [0, 1, 2, 3, 5, 6, 7, 8, 11, 12, 13, 14] [4, 9, 10, 15, 16] (by kernel_rfl) (by kernel_rfl) ?_); simp only [List.map_cons, List.map_nil, List.getD_cons_succ, List.getD_cons_zero]; (repeat (refine wpHL_l (fun K hK => ?_); go_simp; refine hK _ ?_; clear hK K)); refine wpHL_nil ?_; intro d0; have hx0 : Ext v (grow v d0) := ⟨d0, rfl⟩; generalize grow v d0 = y0 at *; (refine wpT_c (fun K hK => ?_); go_simp; refine ⟨_, _, ⟨rfl, rfl⟩, ?_⟩; (with_reducible refine (M1 _ _ _ (VA.ext hx0) (VD.ext hx0)).mono ?_); rintro e y1 ⟨r1, rfl, hr1, hz1⟩; have hx1 : Ext v y1 := hx0.trans hz1; refine ⟨_, rfl, hx1, hK _ _ ?_⟩; clear hK K); (refine wpT_c (fun K hK => ?_); go_simp; refine ⟨_, _, ⟨rfl, rfl⟩, ?_⟩; (with_reducible refine (M2 _ _ _ (VC.ext hx1) (VB.ext hx1)).mono ?_); rintro e y2 ⟨r2, rfl, hr2, hz2⟩; have hx2 : Ext v y2 := hx1.trans hz2; refine ⟨_, rfl, hx2, hK _ _ ?_⟩; clear hK K); (refine wpT_c (fun K hK => ?_); go_simp; refine ⟨_, _, ⟨rfl, rfl⟩, ?_⟩; (with_reducible refine (AD _ _ _ (hr1.ext hz2) hr2).mono ?_); rintro e y3 ⟨r3, rfl, hr3, hz3⟩; have hx3 : Ext v y3 := hx2.trans hz3; refine ⟨_, rfl, hx3, hK _ _ ?_⟩; clear hK K); (refine wpT_c (fun K hK => ?_); go_simp; refine ⟨_, _, ⟨rfl, rfl⟩, ?_⟩; (with_reducible refine (M3 _ _ _ (VB.ext hx3) (VD.ext hx3)).mono ?_); rintro e y4 ⟨r4, rfl, hr4, hz4⟩; have hx4 : Ext v y4 := hx3.trans hz4; refine ⟨_, rfl, hx4, hK _ _ ?_⟩; clear hK K); (refine wpT_c (fun K hK => ?_); go_simp; refine ⟨_, _, ⟨rfl, rfl⟩, ?_⟩; (with_reducible refine (MK _ _ _ (hr3.ext hz4) hr4).mono ?_); rintro e y5 ⟨r5, rfl, hr5, hz5⟩; have hx5 : Ext v y5 := hx4.trans hz5; refine ⟨_, rfl, hx5, hK _ _ ?_⟩; clear hK K); refine wpT_nil ?_; simp only [List.drop_succ_cons, List.drop_zero]
  obtain ⟨s8, a8, n8, c8, s9, a9, n9, c9, rfl, W1, W2⟩ := hr5
  have BO2 := BO.ext hx5
  have hxw : Ext w y5 := hx.trans hx5
  have lBO2 := BO2.lt; have cBO2 := BO2.cell; have fBO2 := BO2.frozen
  go_wp2
  refine bp_rebase fun u hu => ?_
  have hy : Ext w u := by rw [hu]; exact ext_auto
  replace W1 := W1.set4 (x0 := .bool s8) (x1 := .slice a8 n8 c8) (x2 := .bool s9) (x3 := .slice a9 n9 c9) BO2 (by decide)
  replace W2 := W2.set4 (x0 := .bool s8) (x1 := .slice a8 n8 c8) (x2 := .bool s9) (x3 := .slice a9 n9 c9) BO2 (by decide)
  rw [← hu] at W1 W2
  have BF : Blk u (w.heap.size + 1 + 1) #[.bool s8, .slice a8 n8 c8, .bool s9, .slice a9 n9 c9] 44 := by rw [hu]; exact BO2.set4
  clear hu BO2
  have lBF := BF.lt; have cBF := BF.cell; have fBF := BF.frozen; clear BF
  exact bodyPost_ret (v := .agg #[.bool s8, .slice a8 n8 c8, .bool s9, .slice a9 n9 c9]) (by simp [results, Tryz.results24, go_sem, cBF]) rfl ⟨_, rfl, ⟨_, _, _, _, _, _, _, _, rfl, W1, W2⟩, hy⟩
set_option maxHeartbeats 8000000 in
theorem fDiv (x y : Rat) (v1 v2 : Value) (fx : Fits x) (fy : Fits y) (h0 : y ≠ 0) (w : World) (h1 : FrQ w v1 x) (h2 : FrQ w v2 y) :
    Calls Tryz.prog 58 #[v1, v2] w (RetB (fun W r => FrQ W r (x / y)) w) := by
  have M1 := fun p q w h1 h2 => bMul x.num y.den p q (len_lt (fit_lt fx.1)) (len_lt (fit_lt (den_fit fy))) w h1 h2
  have M3 := fun p q w h1 h2 => bMul x.den y.num p q (len_lt (fit_lt (den_fit fx))) (len_lt (fit_lt fy.1)) w h1 h2
  have MK := fun p q w h1 h2 => fMake (2 ^ 520) (Nat.le_refl _) quo_all (x.num * y.den) ((x.den : Int) * y.num) p q (prod_lt' fx.1 (den_fit fy)) (prod_lt' (den_fit fx) fy.1) (Int.mul_ne_zero (by have := x.den_nz; omega) (by rw [ne_eq, Rat.num_eq_zero]; exact h0)) w h1 h2
  rw [div_div x y h0] at MK
  clear h0
  generalize x / y = z at *
  obtain ⟨s11, a11, n11, c11, s12, a12, n12, c12, rfl, VA, VB⟩ := h1
  obtain ⟨s13, a13, n13, c13, s14, a14, n14, c14, rfl, VC, VD⟩ := h2
  generalize x.num = xn at *
  generalize y.num = yn at *
  generalize (x.den : Int) = xd at *
  generalize (y.den : Int) = yd at *
  go_enter Tryz.func58, Tryz.ntmps58
  go_wp2
  refine wp_rebase fun v hv => ?_
  have hx : Ext w v := by rw [hv]; exact ext_auto
  have BA : Blk v w.heap.size #[.bool s11, .slice a11 n11 c11, .bool s12, .slice a12 n12 c12] 44 := by rw [hv]; exact blk_auto
  have BB : Blk v (w.heap.size + 1) #[.bool s13, .slice a13 n13 c13, .bool s14, .slice a14 n14 c14] 44 := by rw [hv]; exact blk_auto
  have BO : Blk v (w.heap.size + 1 + 1) #[.bool false, .slice none 0 0, .bool false, .slice none 0 0] 44 := by rw [hv]; exact blk_auto
  clear hv
  have lBA := BA.lt; have cBA := BA.cell; have fBA := BA.frozen; have lBB := BB.lt; have cBB := BB.cell; have fBB := BB.frozen; have lBO := BO.lt; have cBO := BO.cell; have fBO := BO.frozen
  replace VA := VA.ext hx; replace VB := VB.ext hx; replace VC := VC.ext hx; replace VD := VD.ext hx
  (first | refine wp_region_h' 11 [0, 1, 2, 3, 5, 6, 7, 8] [4, 9, 10] (by kernel_rfl) (by kernel_rfl) ?_ | refine wp_region_h 11 [0, 1, 2, 3, 5, 6, 7, 8] [4, 9, 10] (by kernel_rfl) (by kernel_rfl) ?_); simp only [List.map_cons, List.map_nil, List.getD_cons_succ, List.getD_cons_zero]; (repeat (refine wpHL_l (fun K hK => ?_); go_simp; refine hK _ ?_; clear hK K)); refine wpHL_nil ?_; intro d0; have hx0 : Ext v (grow v d0) := ⟨d0, rfl⟩; generalize grow v d0 = y0 at *; (refine wpT_c (fun K hK => ?_); go_simp; refine ⟨_, _, ⟨rfl, rfl⟩, ?_⟩; (with_reducible refine (M1 _ _ _ (VA.ext hx0) (VD.ext hx0)).mono ?_); rintro e y1 ⟨r1, rfl, hr1, hz1⟩; have hx1 : Ext v y1 := hx0.trans hz1; refine ⟨_, rfl, hx1, hK _ _ ?_⟩; clear hK K); (refine wpT_c (fun K hK => ?_); go_simp; refine ⟨_, _, ⟨rfl, rfl⟩, ?_⟩; (with_reducible refine (M3 _ _ _ (VB.ext hx1) (VC.ext hx1)).mono ?_); rintro e y2 ⟨r2, rfl, hr2, hz2⟩; have hx2 : Ext v y2 := hx1.trans hz2; refine ⟨_, rfl, hx2, hK _ _ ?_⟩; clear hK K); (refine wpT_c (fun K hK => ?_); go_simp; refine ⟨_, _, ⟨rfl, rfl⟩, ?_⟩; (with_reducible refine (MK _ _ _ (hr1.ext hz2) hr2).mono ?_); rintro e y3 ⟨r3, rfl, hr3, hz3⟩; have hx3 : Ext v y3 := hx2.trans hz3; refine ⟨_, rfl, hx3, hK _ _ ?_⟩; clear hK K); refine wpT_nil ?_; simp only [List.drop_succ_cons, List.drop_zero]
  obtain ⟨s8, a8, n8, c8, s9, a9, n9, c9, rfl, W1, W2⟩ := hr3
  have BO2 := BO.ext hx3
  have hxw : Ext w y3 := hx.trans hx3
  have lBO2 := BO2.lt; have cBO2 := BO2.cell; have fBO2 := BO2.frozen
  go_wp2
  refine bp_rebase fun u hu => ?_
  have hy : Ext w u := by rw [hu]; exact ext_auto
  replace W1 := W1.set4 (x0 := .bool s8) (x1 := .slice a8 n8 c8) (x2 := .bool s9) (x3 := .slice a9 n9 c9) BO2 (by decide)
  replace W2 := W2.set4 (x0 := .bool s8) (x1 := .slice a8 n8 c8) (x2 := .bool s9) (x3 := .slice a9 n9 c9) BO2 (by decide)
  rw [← hu] at W1 W2
  have BF : Blk u (w.heap.size + 1 + 1) #[.bool s8, .slice a8 n8 c8, .bool s9, .slice a9 n9 c9] 44 := by rw [hu]; exact BO2.set4
  clear hu BO2
  have lBF := BF.lt; have cBF := BF.cell; have fBF := BF.frozen; clear BF
  exact bodyPost_ret (v := .agg #[.bool s8, .slice a8 n8 c8, .bool s9, .slice a9 n9 c9]) (by simp [results, Tryz.results58, go_sem, cBF]) rfl ⟨_, rfl, ⟨_, _, _, _, _, _, _, _, rfl, W1, W2⟩, hy⟩
theorem cmp_prod (x y : Rat) : cmpI (x.num * y.den) (y.num * x.den) = cmpQ x y := by
  rw [cmpQ_eq]; unfold cmpI
  rcases Int.lt_trichotomy (x.num * y.den) (y.num * x.den) with h | h | h
  · rw [if_pos h, if_pos (by omega)]
  · rw [if_neg (by omega), if_neg (by omega), if_neg (by omega), if_pos (by omega)]
  · rw [if_neg (by omega), if_pos h, if_neg (by omega), if_neg (by omega)]
set_option maxHeartbeats 8000000 in
theorem fCmp (x y : Rat) (v1 v2 : Value) (fx : Fits x) (fy : Fits y) (w : World) (h1 : FrQ w v1 x) (h2 : FrQ w v2 y) :
    Calls Tryz.prog 59 #[v1, v2] w (fun e w' => e = .returned (.int .i64 (cmpQ x y)) ∧ Ext w w') := by
  have M1 := fun p q w h1 h2 => bMul x.num y.den p q (len_lt (fit_lt fx.1)) (len_lt (fit_lt (den_fit fy))) w h1 h2
  have M2 := fun p q w h1 h2 => bMul y.num x.den p q (len_lt (fit_lt fy.1)) (len_lt (fit_lt (den_fit fx))) w h1 h2
  have CC := fun p q w h1 h2 => bCmp (x.num * y.den) (y.num * x.den) p q (small_lt (prod_lt' fx.1 (den_fit fy))) (small_lt (prod_lt' fy.1 (den_fit fx))) w h1 h2
  rw [cmp_prod] at CC
  generalize cmpQ x y = z at *
  obtain ⟨s11, a11, n11, c11, s12, a12, n12, c12, rfl, VA, VB⟩ := h1
  obtain ⟨s13, a13, n13, c13, s14, a14, n14, c14, rfl, VC, VD⟩ := h2
  generalize x.num = xn at *
  generalize y.num = yn at *
  generalize (x.den : Int) = xd at *
  generalize (y.den : Int) = yd at *
  go_enter Tryz.func59, Tryz.ntmps59
  go_wp2
  refine wp_rebase fun v hv => ?_
  have hx : Ext w v := by rw [hv]; exact ext_auto
  have BA : Blk v w.heap.size #[.bool s11, .slice a11 n11 c11, .bool s12, .slice a12 n12 c12] 44 := by rw [hv]; exact blk_auto
  have BB : Blk v (w.heap.size + 1) #[.bool s13, .slice a13 n13 c13, .bool s14, .slice a14 n14 c14] 44 := by rw [hv]; exact blk_auto
  clear hv
  have lBA := BA.lt; have cBA := BA.cell; have fBA := BA.frozen; have lBB := BB.lt; have cBB := BB.cell; have fBB := BB.frozen
  replace VA := VA.ext hx; replace VB := VB.ext hx; replace VC := VC.ext hx; replace VD := VD.ext hx
  (first | refine wp_region_h' 11 [0, 1, 2, 3, 5, 6, 7, 8] [4, 9, 10] (by kernel_rfl) (by kernel_rfl) ?_ | refine wp_region_h 11 [0, 1, 2, 3, 5, 6, 7, 8] [4, 9, 10] (by kernel_rfl) (by kernel_rfl) ?_); simp only [List.map_cons, List.map_nil, List.getD_cons_succ, List.getD_cons_zero]; (repeat (refine wpHL_l (fun K hK => ?_); go_simp; refine hK _ ?_; clear hK K)); refine wpHL_nil ?_; intro d0; have hx0 : Ext v (grow v d0) := ⟨d0, rfl⟩; generalize grow v d0 = y0 at *; (refine wpT_c (fun K hK => ?_); go_simp; refine ⟨_, _, ⟨rfl, rfl⟩, ?_⟩; (with_reducible refine (M1 _ _ _ (VA.ext hx0) (VD.ext hx0)).mono ?_); rintro e y1 ⟨r1, rfl, hr1, hz1⟩; have hx1 : Ext v y1 := hx0.trans hz1; refine ⟨_, rfl, hx1, hK _ _ ?_⟩; clear hK K); (refine wpT_c (fun K hK => ?_); go_simp; refine ⟨_, _, ⟨rfl, rfl⟩, ?_⟩; (with_reducible refine (M2 _ _ _ (VC.ext hx1) (VB.ext hx1)).mono ?_); rintro e y2 ⟨r2, rfl, hr2, hz2⟩; have hx2 : Ext v y2 := hx1.trans hz2; refine ⟨_, rfl, hx2, hK _ _ ?_⟩; clear hK K); (refine wpT_c (fun K hK => ?_); go_simp; refine ⟨_, _, ⟨rfl, rfl⟩, ?_⟩; (with_reducible refine (CC _ _ _ (hr1.ext hz2) hr2).mono ?_); rintro e y3 ⟨rfl, hz3⟩; have hx3 : Ext v y3 := hx2.trans hz3; refine ⟨_, rfl, hx3, hK _ _ ?_⟩; clear hK K); refine wpT_nil ?_; simp only [List.drop_succ_cons, List.drop_zero]
  go_wp2
  exact bodyPost_ret (v := .int .i64 z) (by simp [results, Tryz.results59, go_sem]) rfl ⟨rfl, hx.trans hx3⟩
end Go.Proofs.YtmopgcbhmkemjaaGreatDoor

namespace Go.Proofs.YtmopgcbhmkemjaaGreatDoor
open Go Go.RowKit
set_option linter.unusedSimpArgs false
set_option linter.unusedVariables false
set_option maxRecDepth 100000
set_option exponentiation.threshold 3000
theorem FrV.mk {W : World} {s s' : Bool} {a a' : Option Addr} {n c n' c' : Nat} {N D : Int} (h1 : BigV W (.agg (bigC s a n c)) N) (h2 : BigV W (.agg (bigC s' a' n' c')) D) : FrV W (.agg #[.bool s, .slice a n c, .bool s', .slice a' n' c']) N D :=
  ⟨_, _, _, _, _, _, _, _, rfl, h1, h2⟩
set_option maxHeartbeats 8000000 in
theorem fNum (z : Int) (b1 : -9223372036854775808 ≤ z) (b2 : z < 9223372036854775808) (w : World) :
    Calls Tryz.prog 25 #[.int .i64 z] w (RetB (fun W r => FrV W r z 1) w) := by
  have N1 := fun w => bNum z b1 b2 w
  have N2 : ∀ w, Calls Tryz.prog 57 #[.int .i64 1] w (RetB (fun W r => BigV W r 1) w) := fun w => bNum 1 (by decide) (by decide) w
  clear b1 b2
  go_enter Tryz.func25, Tryz.ntmps25
  go_wp2_with (go_at_call 57; (with_reducible refine (N1 _).mono ?_); clear N1; rintro e y1 ⟨r, rfl, hr, hz⟩; obtain ⟨s1, a1, n1, c1, rfl, e1, k1⟩ := hr.opened; have hx : Ext w y1 := Ext.trans ext_auto hz; have BO : Blk y1 w.heap.size #[.bool false, .slice none 0 0, .bool false, .slice none 0 0] 44 := Blk.ext blk_auto hz)
  go_wp2_with (go_at_call 57; (with_reducible refine (N2 _).mono ?_); clear N2; rintro e y2 ⟨r, rfl, hr2, hz2⟩; obtain ⟨s2, a2, n2, c2, rfl, e2, k2⟩ := hr2.opened; have hxw : Ext w y2 := hx.trans hz2; have BO2 := BO.ext hz2; have lBO2 := BO2.lt; have cBO2 := BO2.cell; have fBO2 := BO2.frozen)
  refine bp_rebase fun u hu => ?_
  have hy : Ext w u := by rw [hu]; exact ext_auto
  have W1 := ((BigV.shut e1 k1).ext hz2).set4 (x0 := .bool s1) (x1 := .slice a1 n1 c1) (x2 := .bool s2) (x3 := .slice a2 n2 c2) BO2 (by decide)
  have W2 := (BigV.shut e2 k2).set4 (x0 := .bool s1) (x1 := .slice a1 n1 c1) (x2 := .bool s2) (x3 := .slice a2 n2 c2) BO2 (by decide)
  rw [← hu] at W1 W2
  have BF : Blk u w.heap.size #[.bool s1, .slice a1 n1 c1, .bool s2, .slice a2 n2 c2] 44 := by rw [hu]; exact BO2.set4
  clear hu BO2
  have lBF := BF.lt; have cBF := BF.cell; have fBF := BF.frozen; clear BF
  exact bodyPost_ret (v := .agg #[.bool s1, .slice a1 n1 c1, .bool s2, .slice a2 n2 c2]) (by simp [results, Tryz.results25, go_sem, cBF]) rfl ⟨_, rfl, ⟨_, _, _, _, _, _, _, _, rfl, W1, W2⟩, hy⟩
set_option maxHeartbeats 8000000 in
theorem fFrom (r : Rt) (w : World) :
    Calls Tryz.prog 37 #[r.v] w (RetB (fun W q => FrV W q (sv r.s r.m) (sv r.t r.k)) w) := by
  have FA := fun w => bFrom r.s r.m r.hm w
  have FB := fun w => bFrom r.t r.k r.hk w
  obtain ⟨s, m, t, k, _, _⟩ := r
  dsimp only at *
  generalize sv s m = P at *
  generalize sv t k = Q at *
  go_enter Tryz.func37, Tryz.ntmps37
  go_wp2
  refine wp_rebase fun v hv => ?_
  have hx : Ext w v := by rw [hv]; exact ext_auto
  have BA : Blk v w.heap.size (ratsV s m t k) 29 := by rw [hv]; exact blk_auto
  have BO : Blk v (w.heap.size + 1) #[.bool false, .slice none 0 0, .bool false, .slice none 0 0] 44 := by rw [hv]; exact blk_auto
  clear hv
  have lBA := BA.lt; have cBA := BA.cell; have fBA := BA.frozen; have lBO := BO.lt; have cBO := BO.cell; have fBO := BO.frozen
  (first | refine wp_region_h' 6 [0, 1, 3, 4] [2, 5] (by kernel_rfl) (by kernel_rfl) ?_ | refine wp_region_h 6 [0, 1, 3, 4] [2, 5] (by kernel_rfl) (by kernel_rfl) ?_); simp only [List.map_cons, List.map_nil, List.getD_cons_succ, List.getD_cons_zero]; (repeat (refine wpHL_l (fun K hK => ?_); go_simp; refine hK _ ?_; clear hK K)); refine wpHL_nil ?_; intro d0; have hx0 : Ext v (grow v d0) := ⟨d0, rfl⟩; generalize grow v d0 = y0 at *; (refine wpT_c (fun K hK => ?_); go_simp; refine ⟨_, _, ⟨rfl, rfl⟩, ?_⟩; (with_reducible refine (FA _).mono ?_); rintro e y1 ⟨r1, rfl, hr1, hz1⟩; have hx1 : Ext v y1 := hx0.trans hz1; obtain ⟨s1, a1, n1, c1, rfl, e1, k1⟩ := hr1.opened; refine ⟨_, rfl, hx1, hK _ _ ?_⟩; clear hK K); (refine wpT_c (fun K hK => ?_); go_simp; refine ⟨_, _, ⟨rfl, rfl⟩, ?_⟩; (with_reducible refine (FB _).mono ?_); rintro e y2 ⟨r2, rfl, hr2, hz2⟩; have hx2 : Ext v y2 := hx1.trans hz2; obtain ⟨s2, a2, n2, c2, rfl, e2, k2⟩ := hr2.opened; refine ⟨_, rfl, hx2, hK _ _ ?_⟩; clear hK K); refine wpT_nil ?_; simp only [List.drop_succ_cons, List.drop_zero]
  have BO2 := BO.ext hx2
  have hxw : Ext w y2 := hx.trans hx2
  have lBO2 := BO2.lt; have cBO2 := BO2.cell; have fBO2 := BO2.frozen
  go_wp2
  refine bp_rebase fun u hu => ?_
  have hy : Ext w u := by rw [hu]; exact ext_auto
  have W1 := ((BigV.shut e1 k1).ext hz2).set4 (x0 := .bool s1) (x1 := .slice a1 n1 c1) (x2 := .bool s2) (x3 := .slice a2 n2 c2) BO2 (by decide)
  have W2 := (BigV.shut e2 k2).set4 (x0 := .bool s1) (x1 := .slice a1 n1 c1) (x2 := .bool s2) (x3 := .slice a2 n2 c2) BO2 (by decide)
  rw [← hu] at W1 W2
  have BF : Blk u (w.heap.size + 1) #[.bool s1, .slice a1 n1 c1, .bool s2, .slice a2 n2 c2] 44 := by rw [hu]; exact BO2.set4
  clear hu BO2
  have lBF := BF.lt; have cBF := BF.cell; have fBF := BF.frozen; clear BF
  exact bodyPost_ret (v := .agg #[.bool s1, .slice a1 n1 c1, .bool s2, .slice a2 n2 c2]) (by simp [results, Tryz.results37, go_sem, cBF]) rfl ⟨_, rfl, ⟨_, _, _, _, _, _, _, _, rfl, W1, W2⟩, hy⟩
theorem fFrom_ok (r : Rt) (h : r.ok = true) (w : World) :
    Calls Tryz.prog 37 #[r.v] w (RetB (fun W q => FrQ W q r.q) w) := by
  obtain ⟨h1, h2, h3, _, _⟩ := Rt.q_parts r h
  have := fFrom r w
  rw [← h1, h3, sv_false, ← h2] at this
  exact this
end Go.Proofs.YtmopgcbhmkemjaaGreatDoor

namespace Go.Proofs.YtmopgcbhmkemjaaGreatDoor
open Go Go.RowKit
set_option linter.unusedSimpArgs false
set_option linter.unusedVariables false
set_option maxRecDepth 100000
set_option exponentiation.threshold 3000

theorem fNumQ (z : Int) (b1 : -9223372036854775808 ≤ z) (b2 : z < 9223372036854775808) (w : World) :
    Calls Tryz.prog 25 #[.int .i64 z] w (RetB (fun W r => FrQ W r (z : Rat)) w) := by
  have h := fNum z b1 b2 w
  have e : (fun (W : World) r => FrQ W r (z : Rat)) = fun W r => FrV W r z 1 := by
    funext W r
    show FrV W r ((z : Rat).num) (((z : Rat).den : Nat) : Int) = _
    rw [Rat.num_intCast, Rat.den_intCast]; rfl
  rw [e]; exact h
set_option maxHeartbeats 4000000 in
theorem half_any : Ans 42 #[] (ratV false 1 false 2) := fun w => by
  have hx : Ext w w := Ext.refl w
  have N1 := fun w => fNumQ 1 (by decide) (by decide) w
  have N2 := fun w => fNumQ 2 (by decide) (by decide) w
  have f1 : Fits ((1 : Int) : Rat) := ⟨by decide, by decide⟩
  have f2 : Fits ((2 : Int) : Rat) := ⟨by decide, by decide⟩
  have hne : ((2 : Int) : Rat) ≠ 0 := by decide
  have DV := fun v1 v2 w h1 h2 => fDiv ((1 : Int) : Rat) ((2 : Int) : Rat) v1 v2 f1 f2 hne w h1 h2
  have hq : qV (((1 : Int) : Rat) / ((2 : Int) : Rat)) = ratV false 1 false 2 := by rw [← Rat.divInt_eq_div]; exact qV_of _ _ _ _ (by decide) (by decide) (by decide)
  have f3 : Fits (((1 : Int) : Rat) / ((2 : Int) : Rat)) := by rw [← Rat.divInt_eq_div]; exact Fits.small (by decide) (by decide)
  have OU := fun v w h => fOut_fits (((1 : Int) : Rat) / ((2 : Int) : Rat)) v f3 w h
  rw [hq] at OU
  generalize ((1 : Int) : Rat) / ((2 : Int) : Rat) = q at *
  generalize ((1 : Int) : Rat) = q1 at *
  generalize ((2 : Int) : Rat) = q2 at *
  clear f1 f2 f3 hne hq
  go_enter Tryz.func42, Tryz.ntmps42
  go_wp2_with (go_at_call 25; (with_reducible refine (N1 _).mono ?_); clear N1; rintro e z1 ⟨r1, rfl, hr1, hz⟩; have hx1 : Ext w z1 := Ext.trans ext_auto hz; have BO : Blk z1 w.heap.size #[.bool false, .int .u64 0, .int .u64 0, .int .u64 0, .int .u64 0, .bool false, .int .u64 0, .int .u64 0, .int .u64 0, .int .u64 0] 29 := Blk.ext blk_auto hz; clear hz)
  go_wp2_with (go_at_call 25; (with_reducible refine (N2 _).mono ?_); clear N2; rintro e z2 ⟨r2, rfl, hr2, hz⟩; have hx2 : Ext w z2 := Ext.trans hx1 hz; replace hr1 := hr1.ext hz; replace BO := BO.ext hz; clear hz hx1)
  go_wp2_with (go_at_call 58; (with_reducible refine (DV _ _ _ hr1 hr2).mono ?_); clear DV; rintro e z3 ⟨r3, rfl, hr3, hz⟩; have hx3 : Ext w z3 := Ext.trans hx2 hz; replace BO := BO.ext hz; clear hz hx2 hr1 hr2)
  go_wp2_with (go_at_call 76; (with_reducible refine (OU _ _ hr3).mono ?_); clear OU; rintro e z4 ⟨rfl, hz⟩; have hx4 : Ext w z4 := Ext.trans hx3 hz; replace BO := BO.ext hz; clear hz hx3; have lBO := BO.lt; have cBO := BO.cell; have fBO := BO.frozen)
  refine bp_rebase fun u hu => ?_
  have hy : Ext w u := by rw [hu]; exact ext_auto
  have BF : Blk u w.heap.size (ratsV false 1 false 2) 29 := by rw [hu]; exact blk_auto
  clear hu
  have lBF := BF.lt; have cBF := BF.cell; have fBF := BF.frozen; clear BF
  exact bodyPost_ret (v := ratV false 1 false 2) (by simp [results, Tryz.results42, go_sem, cBF]) rfl ⟨rfl, hy⟩
/-- A fraction is not too great for a point. -/
theorem fitsP_any (q : Rat) (v : Value) (w : World) (h : FrQ w v q) : Calls Tryz.prog 36 #[v] w fun e w' => e = .returned (.bool (decide (PFits q))) ∧ Ext w w' := by
  have hx : Ext w w := Ext.refl w
  obtain ⟨s, a, n, c, s', a', n', c', rfl, h1, h2⟩ := h
  obtain ⟨sl, e1, k1⟩ := h1
  obtain ⟨sl', e2, k2⟩ := h2
  obtain ⟨b1, cap1, rfl⟩ := k1.len
  obtain ⟨b2, cap2, rfl⟩ := k2.len
  simp only [bigC, Value.agg.injEq] at e1 e2
  have e3 : n = (dg q.num.natAbs).length := congrArg (fun x : Array Value => match x[1]? with | some (Value.slice _ n _) => n | _ => 0) e1
  have e4 : n' = (dg (q.den : Int).natAbs).length := congrArg (fun x : Array Value => match x[1]? with | some (Value.slice _ n _) => n | _ => 0) e2
  have w1 : n ≤ 6 ↔ q.num.natAbs < C96 := by rw [e3, dg_len_le]; exact Iff.rfl
  have w2 : n' ≤ 4 ↔ q.den < B := by rw [e4, dg_len_le, Int.natAbs_natCast]; exact Iff.rfl
  have hd : decide (PFits q) = (decide (n ≤ 6) && decide (n' ≤ 4)) := by
    rw [decide_eq_decide.2 w1, decide_eq_decide.2 w2]
    by_cases g1 : q.num.natAbs < C96
    · by_cases g2 : q.den < B
      · rw [decide_eq_true g1, decide_eq_true g2]; exact decide_eq_true (show PFits q from ⟨g1, g2⟩)
      · rw [decide_eq_true g1, decide_eq_false g2]; exact decide_eq_false (fun h : PFits q => g2 h.2)
    · rw [decide_eq_false g1]; exact decide_eq_false (fun h : PFits q => g1 h.1)
  rw [hd]
  clear e1 e2 e3 e4 w1 w2 hd k1 k2
  go_enter Tryz.func36, Tryz.ntmps36
  go_upto_region 1 with fail
  refine wp_rebase fun v hv => ?_
  have BA : Blk v w.heap.size #[.bool s, .slice a n c, .bool s', .slice a' n' c'] 44 := by rw [hv]; exact blk_auto
  replace hx : Ext w v := by rw [hv]; exact ext_auto
  clear hv
  have lBA := BA.lt; have cBA := BA.cell; have fBA := BA.frozen
  by_cases g1 : n ≤ 6
  · have g1' : ((n : Int) ≤ 6) := by omega
    have g2' : decide ((n' : Int) ≤ 4) = decide (n' ≤ 4) := by rw [decide_eq_decide]; omega
    (first | refine wp_region_p (by kernel_rfl) ?_ | refine wp_region_p' (by kernel_rfl) ?_); refine wpAny_ph 0 8 [0, 1, 2, 3, 4, 5, 6, 7] [] [] (fun _ => .cells #[] 0) (by decide) (by kernel_rfl) (clo_first (Nat.le_of_ble_eq_true (by kernel_rfl)) (by kernel_rfl)) (fun j hj => by cases hj) ?_; simp only [List.map_cons, List.map_nil, List.getD_cons_succ, List.getD_cons_zero]; (refine wpG_l rfl (fun K hK => ?_); go_simp; refine hK _ ?_; clear hK K); (refine wpG_l rfl (fun K hK => ?_); go_simp; refine hK _ ?_; clear hK K); (refine wpG_l rfl (fun K hK => ?_); go_simp; refine hK _ ?_; clear hK K); (refine wpG_l rfl (fun K hK => ?_); go_simp; refine hK _ ?_; clear hK K); (refine wpG_l rfl (fun K hK => ?_); go_simp; refine hK _ ?_; clear hK K); (refine wpG_l rfl (fun K hK => ?_); go_simp; refine hK _ ?_; clear hK K); (refine wpG_l rfl (fun K hK => ?_); go_simp; refine hK _ ?_; clear hK K); (refine wpG_l rfl (fun K hK => ?_); go_simp; refine hK _ ?_; clear hK K); refine wpG_nil ?_; intro d0; have hx0 : Ext v (grow v d0) := ⟨d0, rfl⟩; generalize grow v d0 = y0 at *; refine wpX_nil (fun y ht b hb => ?_); have hxv := hx0.trans ht; have hx := hx.trans hxv; simp only [fill]; clear hb; replace BA := BA.ext hxv; clear lBA cBA fBA; clear hxv ht b; obtain ⟨v, rfl⟩ : ∃ v', v' = y := ⟨_, rfl⟩; have lBA := BA.lt; have cBA := BA.cell; have fBA := BA.frozen; refine wpAny_done (by kernel_rfl) ?_; simp only [List.drop_succ_cons, List.drop_zero, List.drop_nil]
    go_wp2
    exact bodyPost_ret (v := .bool (decide (n' ≤ 4))) (by simp [results, Tryz.results36, go_sem, g2']) rfl ⟨by simp [g1], ext_auto⟩
  · have g1' : ¬ ((n : Int) ≤ 6) := by omega
    (first | refine wp_region_p (by kernel_rfl) ?_ | refine wp_region_p' (by kernel_rfl) ?_); refine wpAny_ph 0 8 [0, 1, 2, 3, 4, 5, 6, 7] [] [] (fun _ => .cells #[] 0) (by decide) (by kernel_rfl) (clo_first (Nat.le_of_ble_eq_true (by kernel_rfl)) (by kernel_rfl)) (fun j hj => by cases hj) ?_; simp only [List.map_cons, List.map_nil, List.getD_cons_succ, List.getD_cons_zero]; (refine wpG_l rfl (fun K hK => ?_); go_simp; refine hK _ ?_; clear hK K); (refine wpG_l rfl (fun K hK => ?_); go_simp; refine hK _ ?_; clear hK K); (refine wpG_l rfl (fun K hK => ?_); go_simp; refine hK _ ?_; clear hK K); (refine wpG_l rfl (fun K hK => ?_); go_simp; refine hK _ ?_; clear hK K); (refine wpG_l rfl (fun K hK => ?_); go_simp; refine hK _ ?_; clear hK K); (refine wpG_l rfl (fun K hK => ?_); go_simp; refine hK _ ?_; clear hK K); (refine wpG_l rfl (fun K hK => ?_); go_simp; refine hK _ ?_; clear hK K); (refine wpG_l rfl (fun K hK => ?_); go_simp; refine hK _ ?_; clear hK K); refine wpG_nil ?_; intro d0; have hx0 : Ext v (grow v d0) := ⟨d0, rfl⟩; generalize grow v d0 = y0 at *; refine wpX_nil (fun y ht b hb => ?_); have hxv := hx0.trans ht; have hx := hx.trans hxv; simp only [fill]; clear hb; replace BA := BA.ext hxv; clear lBA cBA fBA; clear hxv ht b; obtain ⟨v, rfl⟩ : ∃ v', v' = y := ⟨_, rfl⟩; have lBA := BA.lt; have cBA := BA.cell; have fBA := BA.frozen; refine wpAny_done (by kernel_rfl) ?_; simp only [List.drop_succ_cons, List.drop_zero, List.drop_nil]
    go_wp2
    exact bodyPost_ret (v := .bool false) (by simp [results, Tryz.results36, go_sem]) rfl ⟨by simp [g1], ext_auto⟩
end Go.Proofs.YtmopgcbhmkemjaaGreatDoor

namespace Go.Proofs.YtmopgcbhmkemjaaGreatDoor
open Go Go.RowKit
set_option linter.unusedSimpArgs false
set_option linter.unusedVariables false
set_option maxRecDepth 100000
set_option exponentiation.threshold 3000

theorem FrV.opened {W : World} {v : Value} {N D : Int} (h : FrV W v N D) : ∃ s a n c s' a' n' c', v = .agg #[.bool s, .slice a n c, .bool s', .slice a' n' c'] ∧ BigV W (.agg (bigC s a n c)) N ∧ BigV W (.agg (bigC s' a' n' c')) D := h
end Go.Proofs.YtmopgcbhmkemjaaGreatDoor

namespace Go.Proofs.YtmopgcbhmkemjaaGreatDoor
open Go Go.RowKit
set_option linter.unusedSimpArgs false
set_option linter.unusedVariables false
set_option maxRecDepth 100000
set_option exponentiation.threshold 3000

theorem Blk.set8 {W : World} {b : Nat} {T : TypeId} {x0 x1 x2 x3 x4 x5 x6 x7 y0 y1 y2 y3 y4 y5 y6 y7 : Value} (h : Blk W b #[y0, y1, y2, y3, y4, y5, y6, y7] T) : Blk ((((((((W.setCell ⟨b, 0, none⟩ x0).setCell ⟨b, 1, none⟩ x1).setCell ⟨b, 2, none⟩ x2).setCell ⟨b, 3, none⟩ x3).setCell ⟨b, 4, none⟩ x4).setCell ⟨b, 5, none⟩ x5).setCell ⟨b, 6, none⟩ x6).setCell ⟨b, 7, none⟩ x7) b #[x0, x1, x2, x3, x4, x5, x6, x7] T := by
  have h1 := (((((((h.setSame (o := 0) (v := x0)).setSame (o := 1) (v := x1)).setSame (o := 2) (v := x2)).setSame (o := 3) (v := x3)).setSame (o := 4) (v := x4)).setSame (o := 5) (v := x5)).setSame (o := 6) (v := x6)).setSame (o := 7) (v := x7)
  simp only [List.setIfInBounds_toArray, List.set_cons_succ, List.set_cons_zero] at h1
  exact h1
theorem BigV.set8 {W : World} {b : Nat} {T : TypeId} {x0 x1 x2 x3 x4 x5 x6 x7 y0 y1 y2 y3 y4 y5 y6 y7 v : Value} {z : Int} (h : BigV W v z) (hB : Blk W b #[y0, y1, y2, y3, y4, y5, y6, y7] T) (hT : T ≠ 2) : BigV ((((((((W.setCell ⟨b, 0, none⟩ x0).setCell ⟨b, 1, none⟩ x1).setCell ⟨b, 2, none⟩ x2).setCell ⟨b, 3, none⟩ x3).setCell ⟨b, 4, none⟩ x4).setCell ⟨b, 5, none⟩ x5).setCell ⟨b, 6, none⟩ x6).setCell ⟨b, 7, none⟩ x7) v z :=
  (((((((h.set hB hT).set (hB.setSame (o := 0)) hT).set ((hB.setSame (o := 0)).setSame (o := 1)) hT).set (((hB.setSame (o := 0)).setSame (o := 1)).setSame (o := 2)) hT).set ((((hB.setSame (o := 0)).setSame (o := 1)).setSame (o := 2)).setSame (o := 3)) hT).set (((((hB.setSame (o := 0)).setSame (o := 1)).setSame (o := 2)).setSame (o := 3)).setSame (o := 4)) hT).set ((((((hB.setSame (o := 0)).setSame (o := 1)).setSame (o := 2)).setSame (o := 3)).setSame (o := 4)).setSame (o := 5)) hT).set (((((((hB.setSame (o := 0)).setSame (o := 1)).setSame (o := 2)).setSame (o := 3)).setSame (o := 4)).setSame (o := 5)).setSame (o := 6)) hT
/-- A reference's point. -/
def PtV (W : World) (v : Value) (x y : Rat) : Prop := ∃ s1 a1 n1 c1 s2 a2 n2 c2 s3 a3 n3 c3 s4 a4 n4 c4, v = .agg #[.bool s1, .slice a1 n1 c1, .bool s2, .slice a2 n2 c2, .bool s3, .slice a3 n3 c3, .bool s4, .slice a4 n4 c4] ∧
  BigV W (.agg (bigC s1 a1 n1 c1)) x.num ∧ BigV W (.agg (bigC s2 a2 n2 c2)) x.den ∧ BigV W (.agg (bigC s3 a3 n3 c3)) y.num ∧ BigV W (.agg (bigC s4 a4 n4 c4)) y.den
theorem PtV.ext {W W' : World} {v : Value} {x y : Rat} (h : PtV W v x y) (hx : Ext W W') : PtV W' v x y := by
  obtain ⟨s1, a1, n1, c1, s2, a2, n2, c2, s3, a3, n3, c3, s4, a4, n4, c4, h0, h1, h2, h3, h4⟩ := h
  exact ⟨s1, a1, n1, c1, s2, a2, n2, c2, s3, a3, n3, c3, s4, a4, n4, c4, h0, h1.ext hx, h2.ext hx, h3.ext hx, h4.ext hx⟩
set_option maxHeartbeats 8000000 in
theorem ofP_any (x y : Int) (b1 : -9223372036854775808 ≤ x) (b2 : x < 9223372036854775808) (b3 : -9223372036854775808 ≤ y) (b4 : y < 9223372036854775808) (w : World) :
    Calls Tryz.prog 20 #[ndV x y] w (RetB (fun W r => PtV W r (x : Rat) (y : Rat)) w) := by
  have N1 := fun w => fNumQ x b1 b2 w
  have N2 := fun w => fNumQ y b3 b4 w
  clear b1 b2 b3 b4
  generalize (x : Rat) = p at *
  generalize (y : Rat) = q at *
  go_enter Tryz.func20, Tryz.ntmps20
  go_upto_region 1 with fail
  refine wp_rebase fun v hv => ?_
  have hx : Ext w v := by rw [hv]; exact ext_auto
  have BA : Blk v w.heap.size #[.int .i64 x, .int .i64 y] 23 := by rw [hv]; exact blk_auto
  have BO : Blk v (w.heap.size + 1) #[.bool false, .slice none 0 0, .bool false, .slice none 0 0, .bool false, .slice none 0 0, .bool false, .slice none 0 0] 46 := by rw [hv]; exact blk_auto
  clear hv
  have lBA := BA.lt; have cBA := BA.cell; have fBA := BA.frozen; have lBO := BO.lt; have cBO := BO.cell; have fBO := BO.frozen
  (first | refine wp_region_p (by kernel_rfl) ?_ | refine wp_region_p' (by kernel_rfl) ?_); refine wpAny_ph 0 7 [0, 1, 3, 4] [2, 5, 6] [] (fun _ => .cells #[] 0) (by decide) (by kernel_rfl) (clo_first (Nat.le_of_ble_eq_true (by kernel_rfl)) (by kernel_rfl)) (fun j hj => by cases hj) ?_; simp only [List.map_cons, List.map_nil, List.getD_cons_succ, List.getD_cons_zero]; (refine wpG_l rfl (fun K hK => ?_); go_simp; refine hK _ ?_; clear hK K); (refine wpG_l rfl (fun K hK => ?_); go_simp; refine hK _ ?_; clear hK K); (refine wpG_l rfl (fun K hK => ?_); go_simp; refine hK _ ?_; clear hK K); (refine wpG_l rfl (fun K hK => ?_); go_simp; refine hK _ ?_; clear hK K); refine wpG_nil ?_; intro d0; have hx0 : Ext v (grow v d0) := ⟨d0, rfl⟩; generalize grow v d0 = y0 at *; (refine wpX_c rfl (fun t0 ht K hK => ?_); have hx0 := hx0.trans ht; go_simp; refine ⟨_, _, ⟨rfl, rfl⟩, ?_⟩; (with_reducible refine (N1 _).mono ?_); rintro e y1 ⟨r1, rfl, hr1, hz1⟩; have hx1 : Ext v y1 := hx0.trans hz1; obtain ⟨s1, a1, n1, c1, s1', a1', n1', c1', rfl, k1, l1⟩ := hr1.opened; refine ⟨_, rfl, hz1, hK _ _ ?_⟩; clear hK K); (refine wpX_c rfl (fun t1 ht K hK => ?_); have hx1 := hx1.trans ht; have hr1 := hr1.ext ht; go_simp; refine ⟨_, _, ⟨rfl, rfl⟩, ?_⟩; (with_reducible refine (N2 _).mono ?_); rintro e y2 ⟨r2, rfl, hr2, hz2⟩; have hx2 : Ext v y2 := hx1.trans hz2; have hr1 := hr1.ext hz2; obtain ⟨s2, a2, n2, c2, s2', a2', n2', c2', rfl, k2, l2⟩ := hr2.opened; refine ⟨_, rfl, hz2, hK _ _ ?_⟩; clear hK K); (refine wpX_v rfl (fun t2 ht K hK => ?_); have hx2 := hx2.trans ht; have hr1 := hr1.ext ht; have hr2 := hr2.ext ht; go_simp; refine ⟨_, _, ⟨rfl, rfl⟩, Ext.refl _, hK _ _ ?_⟩; clear hK K); refine wpX_nil (fun y ht b hb => ?_); have hxv := hx2.trans ht; have hx := hx.trans hxv; have hr1 := hr1.ext ht; have hr2 := hr2.ext ht; simp only [fill]; clear hb; replace BA := BA.ext hxv; clear lBA cBA fBA; replace BO := BO.ext hxv; clear lBO cBO fBO; clear hxv ht b; obtain ⟨v, rfl⟩ : ∃ v', v' = y := ⟨_, rfl⟩; have lBA := BA.lt; have cBA := BA.cell; have fBA := BA.frozen; have lBO := BO.lt; have cBO := BO.cell; have fBO := BO.frozen; refine wpAny_done (by kernel_rfl) ?_; simp only [List.drop_succ_cons, List.drop_zero, List.drop_nil]
  clear k1 l1 k2 l2
  obtain ⟨_, _, _, _, _, _, _, _, e1, k1, l1⟩ := hr1
  cases e1
  obtain ⟨_, _, _, _, _, _, _, _, e2, k2, l2⟩ := hr2
  cases e2
  go_wp2
  refine bp_rebase fun u hu => ?_
  have hy : Ext w u := by rw [hu]; exact ext_auto
  replace k1 := k1.set8 (x0 := .bool s1) (x1 := .slice a1 n1 c1) (x2 := .bool s1') (x3 := .slice a1' n1' c1') (x4 := .bool s2) (x5 := .slice a2 n2 c2) (x6 := .bool s2') (x7 := .slice a2' n2' c2') BO (by decide)
  replace l1 := l1.set8 (x0 := .bool s1) (x1 := .slice a1 n1 c1) (x2 := .bool s1') (x3 := .slice a1' n1' c1') (x4 := .bool s2) (x5 := .slice a2 n2 c2) (x6 := .bool s2') (x7 := .slice a2' n2' c2') BO (by decide)
  replace k2 := k2.set8 (x0 := .bool s1) (x1 := .slice a1 n1 c1) (x2 := .bool s1') (x3 := .slice a1' n1' c1') (x4 := .bool s2) (x5 := .slice a2 n2 c2) (x6 := .bool s2') (x7 := .slice a2' n2' c2') BO (by decide)
  replace l2 := l2.set8 (x0 := .bool s1) (x1 := .slice a1 n1 c1) (x2 := .bool s1') (x3 := .slice a1' n1' c1') (x4 := .bool s2) (x5 := .slice a2 n2 c2) (x6 := .bool s2') (x7 := .slice a2' n2' c2') BO (by decide)
  rw [← hu] at k1 l1 k2 l2
  have BF : Blk u (w.heap.size + 1) #[.bool s1, .slice a1 n1 c1, .bool s1', .slice a1' n1' c1', .bool s2, .slice a2 n2 c2, .bool s2', .slice a2' n2' c2'] 46 := by rw [hu]; exact BO.set8
  clear hu BO
  have lBF := BF.lt; have cBF := BF.cell; have fBF := BF.frozen; clear BF
  exact bodyPost_ret (v := .agg #[.bool s1, .slice a1 n1 c1, .bool s1', .slice a1' n1' c1', .bool s2, .slice a2 n2 c2, .bool s2', .slice a2' n2' c2']) (by simp [results, Tryz.results20, go_sem, cBF]) rfl ⟨_, rfl, ⟨_, _, _, _, _, _, _, _, _, _, _, _, _, _, _, _, rfl, k1, l1, k2, l2⟩, hy⟩
end Go.Proofs.YtmopgcbhmkemjaaGreatDoor

namespace Go.Proofs.YtmopgcbhmkemjaaGreatDoor
open Go Go.RowKit
set_option linter.unusedSimpArgs false
set_option linter.unusedVariables false

theorem Blk.loadsP {W : World} {b : Nat} {cs : Array Value} {T : TypeId} (hB : Blk W b cs T) (hc : cs.size = 20) : (loadVar 31 ⟨b, 0, none⟩).run Tryz.prog W = .ok (.agg cs) W := by
  have hL := hB.loads (P := Tryz.prog)
  rw [hc] at hL
  simp only [loadVar, Sem.run_bind, Tryz.isAgg31, Tryz.sizeOf31, Result.andThen_ok, if_true, hL, Sem.run_pure]
theorem results_pt_tmp {fn : Func} {tmps : Array Value} {W : World} {i j b : Nat} {cs : Array Value} {z : Value} {T : TypeId} (hr : fn.results = #[.cell i 31, .tmp j])
    (h1 : tmps[i]?.getD undef = .pointer (some ⟨b, 0, none⟩)) (h2 : tmps[j]?.getD undef = z) (hB : Blk W b cs T) (hc : cs.size = 20) :
    (results fn tmps).run Tryz.prog W = .ok (.tuple #[.agg cs, z]) W := by
  have hV1 := hB.loadsP hc
  simp [results, hr, h1, h2, asAddr, hV1, Result.andThen]
theorem results_pt {fn : Func} {tmps : Array Value} {W : World} {i b : Nat} {cs : Array Value} {T : TypeId} (hr : fn.results = #[.cell i 31])
    (h1 : tmps[i]?.getD undef = .pointer (some ⟨b, 0, none⟩)) (hB : Blk W b cs T) (hc : cs.size = 20) :
    (results fn tmps).run Tryz.prog W = .ok (.agg cs) W := by
  have hV1 := hB.loadsP hc
  simp [results, hr, h1, asAddr, hV1, Result.andThen]
end Go.Proofs.YtmopgcbhmkemjaaGreatDoor

namespace Go.Proofs.YtmopgcbhmkemjaaGreatDoor
open Go Go.RowKit
set_option linter.unusedSimpArgs false
set_option linter.unusedVariables false
set_option maxRecDepth 100000
set_option exponentiation.threshold 3000

set_option maxHeartbeats 16000000 in
theorem outP_yes (x y : Rat) (fx : PFits x) (fy : PFits y) (v : Value) (w : World) (h : PtV w v x y) :
    Calls Tryz.prog 43 #[v] w fun e w' => e = .returned (.tuple #[pV (rt x (pfits_fits fx)) (rt y (pfits_fits fy)), .int .i64 0]) ∧ Ext w w' := by
  have hx : Ext w w := Ext.refl w
  have O1 := fun v w h => fOut_fits x v (pfits_fits fx) w h
  have O2 := fun v w h => fOut_fits y v (pfits_fits fy) w h
  have F1 := fun v w h => fitsP_any x v w h
  have F2 := fun v w h => fitsP_any y v w h
  rw [decide_eq_true fx] at F1
  rw [decide_eq_true fy] at F2
  rw [show qV x = (rt x (pfits_fits fx)).v from rfl] at O1
  rw [show qV y = (rt y (pfits_fits fy)).v from rfl] at O2
  generalize rt x (pfits_fits fx) = X at *
  generalize rt y (pfits_fits fy) = Y at *
  clear fx fy
  obtain ⟨p1, m1, t1, k1, _, _⟩ := X
  obtain ⟨p2, m2, t2, k2, _, _⟩ := Y
  obtain ⟨s1, a1, n1, c1, s2, a2, n2, c2, s3, a3, n3, c3, s4, a4, n4, c4, rfl, g1, g2, g3, g4⟩ := h
  have V1 : FrQ w (.agg #[.bool s1, .slice a1 n1 c1, .bool s2, .slice a2 n2 c2]) x := ⟨_, _, _, _, _, _, _, _, rfl, g1, g2⟩
  have V2 : FrQ w (.agg #[.bool s3, .slice a3 n3 c3, .bool s4, .slice a4 n4 c4]) y := ⟨_, _, _, _, _, _, _, _, rfl, g3, g4⟩
  clear g1 g2 g3 g4
  go_enter Tryz.func43, Tryz.ntmps43
  go_wp2_with (go_at_call 76; (with_reducible refine (O1 _ _ (V1.ext ext_auto)).mono ?_); rintro e y1 ⟨rfl, hz_⟩; have hzz_ : Ext w y1 := Ext.trans ext_auto hz_; have BA : Blk y1 w.heap.size #[.bool s1, .slice a1 n1 c1, .bool s2, .slice a2 n2 c2, .bool s3, .slice a3 n3 c3, .bool s4, .slice a4 n4 c4] 46 := Blk.ext blk_auto hz_; have BO : Blk y1 (w.heap.size + 1) zPt 31 := Blk.ext blk_auto hz_; replace hx := hx.trans hzz_; clear hz_ hzz_; have lBA := BA.lt; have cBA := BA.cell; have fBA := BA.frozen; have lBO := BO.lt; have cBO := BO.cell; have fBO := BO.frozen)
  go_wp2_with (go_at_call 76; (with_reducible refine (O2 _ _ (V2.ext (hx.trans ext_auto))).mono ?_); rintro e y2 ⟨rfl, hz_⟩; have hzz_ : Ext y1 y2 := Ext.trans ext_auto hz_; have B1 : Blk y2 y1.heap.size (ratsV p1 m1 t1 k1) 29 := Blk.ext blk_auto hz_; replace BA := BA.ext hzz_; clear lBA cBA fBA; replace BO := BO.ext hzz_; clear lBO cBO fBO; replace hx := hx.trans hzz_; clear hz_ hzz_; have lBA := BA.lt; have cBA := BA.cell; have fBA := BA.frozen; have lBO := BO.lt; have cBO := BO.cell; have fBO := BO.frozen; have lB1 := B1.lt; have cB1 := B1.cell; have fB1 := B1.frozen)
  go_wp2_with (go_at_call 36; (with_reducible refine (F1 _ _ (V1.ext (hx.trans ext_auto))).mono ?_); rintro e y3 ⟨rfl, hz_⟩; have hzz_ : Ext y2 y3 := Ext.trans ext_auto hz_; have B2 : Blk y3 y2.heap.size (ratsV p2 m2 t2 k2) 29 := Blk.ext blk_auto hz_; replace BA := BA.ext hzz_; clear lBA cBA fBA; replace BO := BO.ext hzz_; clear lBO cBO fBO; replace B1 := B1.ext hzz_; clear lB1 cB1 fB1; replace hx := hx.trans hzz_; clear hz_ hzz_; have lBA := BA.lt; have cBA := BA.cell; have fBA := BA.frozen; have lBO := BO.lt; have cBO := BO.cell; have fBO := BO.frozen; have lB1 := B1.lt; have cB1 := B1.cell; have fB1 := B1.frozen; have lB2 := B2.lt; have cB2 := B2.cell; have fB2 := B2.frozen)
  go_wp2_with (first | ((with_reducible apply wpList_store_row info_point); (case hs => exact rfl); (case hv => exact rfl); (case hB => exact blk_auto); (case hy => rfl); (case hc => rfl); (case h1 => rfl)) | (go_at_call 36; (with_reducible refine (F2 _ _ (V2.ext (hx.trans ext_auto))).mono ?_); rintro e y4 ⟨rfl, hz_⟩; have hzz_ : Ext y3 y4 := Ext.trans ext_auto hz_; replace hx := hx.trans hzz_; replace BO := BO.ext hzz_; replace B1 := B1.ext hzz_; replace B2 := B2.ext hzz_; clear hz_ hzz_ lBO cBO fBO lB1 cB1 fB1 lB2 cB2 fB2; have lBO := BO.lt; have cBO := BO.cell; have fBO := BO.frozen; have lB1 := B1.lt; have cB1 := B1.cell; have fB1 := B1.frozen; have lB2 := B2.lt; have cB2 := B2.cell; have fB2 := B2.frozen))
  refine bp_rebase fun u hu => ?_
  have hy : Ext w u := by rw [hu]; exact Ext.setRow hx (by omega)
  have BF : Blk u (w.heap.size + 1) (ptsV p1 m1 t1 k1 p2 m2 t2 k2) 31 := by rw [hu]; exact BO.setRowSame
  clear hu
  exact bodyPost_ret (v := .tuple #[ptV p1 m1 t1 k1 p2 m2 t2 k2, .int .i64 0]) (results_pt_tmp Tryz.results43 rfl rfl BF rfl) rfl ⟨rfl, hy⟩
set_option maxHeartbeats 8000000 in
theorem atP_any (x y : Int) (b1 : -9223372036854775808 ≤ x) (b2 : x < 9223372036854775808) (b3 : -9223372036854775808 ≤ y) (b4 : y < 9223372036854775808) (fx : PFits (x : Rat)) (fy : PFits (y : Rat)) :
    Ans 30 #[.int .i64 x, .int .i64 y] (pV (rt x (pfits_fits fx)) (rt y (pfits_fits fy))) := fun w => by
  have hx : Ext w w := Ext.refl w
  have O1 := fun w => ofP_any x y b1 b2 b3 b4 w
  have O2 := fun v w h => outP_yes x y fx fy v w h
  generalize rt x (pfits_fits fx) = X at *
  generalize rt y (pfits_fits fy) = Y at *
  clear fx fy b1 b2 b3 b4
  obtain ⟨p1, m1, t1, k1, _, _⟩ := X
  obtain ⟨p2, m2, t2, k2, _, _⟩ := Y
  go_enter Tryz.func30, Tryz.ntmps30
  go_wp2_with (go_at_call 20; (with_reducible refine (O1 _).mono ?_); clear O1; rintro e z1 ⟨r1, rfl, hr1, hz⟩; have hx1 : Ext w z1 := Ext.trans ext_auto hz; have BO : Blk z1 w.heap.size zPt 31 := Blk.ext blk_auto hz; clear hz)
  go_upto_region 2 with (first | ((with_reducible apply wpList_store_row info_point); (case hs => exact rfl); (case hv => exact rfl); (case hB => exact blk_auto); (case hy => rfl); (case hc => rfl); (case h1 => rfl)) | (go_at_call 43; (with_reducible refine (O2 _ _ hr1).mono ?_); clear O2; rintro e z2 ⟨rfl, hz⟩; have hx2 : Ext w z2 := hx1.trans hz; replace BO := BO.ext hz; have hzs := hz.size; have lb := BO.lt; clear hz hr1))
  refine wp_rebase fun v hv => ?_
  have hxv : Ext w v := by rw [hv]; exact Ext.setRow ext_auto (Nat.le_trans hx2.size (Nat.le_refl _))
  have BP : Blk v z2.heap.size (ptsV p1 m1 t1 k1 p2 m2 t2 k2) 31 := by rw [hv]; exact Blk.setRowSame (Blk.new _ _ _ rfl)
  replace BO : Blk v w.heap.size zPt 31 := by rw [hv]; exact Blk.setRowOther blk_auto (by omega)
  clear hv
  go_wp2_with (first | ((with_reducible apply wpList_store_row info_point); (case hs => exact rfl); (case hv => exact rfl); (case hB => exact blk_auto); (case hy => rfl); (case hc => rfl); (case h1 => rfl)) | ((with_reducible apply wpList_load_row Tryz.isAgg31 Tryz.sizeOf31); (case hw => (simp [go_sem, Region.wanted, yielded]; done)); (case hs => exact rfl); (case hB => exact blk_auto); (case hc => rfl)))
  refine bp_rebase fun u hu => ?_
  have hy : Ext w u := by rw [hu]; exact Ext.setRow hxv (Nat.le_refl _)
  have BF : Blk u w.heap.size (ptsV p1 m1 t1 k1 p2 m2 t2 k2) 31 := by rw [hu]; exact BO.setRowSame
  clear hu
  exact bodyPost_ret (v := ptV p1 m1 t1 k1 p2 m2 t2 k2) (results_pt Tryz.results30 rfl BF rfl) rfl ⟨rfl, hy⟩
end Go.Proofs.YtmopgcbhmkemjaaGreatDoor

namespace Go.Proofs.YtmopgcbhmkemjaaGreatDoor
open Go Go.RowKit Go.Shelf
set_option linter.unusedSimpArgs false
set_option linter.unusedVariables false
set_option maxRecDepth 100000
attribute [local go_sem] Oper.semAt_some

theorem wpIn_scope_wide {n : Nat} {P : Program} {c : Code} {Q : Exit → Act → World → Prop} {a : Act} {w : World} (h : c.wpIn Fence.wide n P (Exit.noGoto Q) a w) : (Code.scope c).wpIn Fence.wide n P Q a w :=
  wpIn_wide.2 (wp_scope_straight (wpIn_wide.1 h))
def partsOf (is : Bool) : List (Fin 2) := if is then [0, 1] else [0]
def ups (j : Nat) : List (Fin 2) := ([0, 1] : List (Fin 2)).take j
theorem ups_succ (j : Nat) (h : j < 2) : ups (j + 1) = ups j ++ [⟨j, h⟩] := by
  match j, h with
  | 0, _ => rfl
  | 1, _ => rfl
theorem ups_length (j : Nat) (h : j ≤ 2) : (ups j).length = j := by
  rcases (by omega : j = 0 ∨ j = 1 ∨ j = 2) with rfl | rfl | rfl <;> rfl
abbrev prt (a b : ByteArray) (x : Nat) : Value := .string (if x = 0 then a else b)
theorem index_prt (a b : ByteArray) (i : Nat) (hi : i < 2) (w : World) : (Instr.index 145 (.agg #[.string a, .string b]) (.int .i64 (i : Int))).run Tryz.prog w = .ok (prt a b i) w := by
  rcases (by omega : i = 0 ∨ i = 1) with rfl | rfl <;> kernel_rfl
set_option maxHeartbeats 4000000 in
theorem parts1_in (n : Nat) (hn : 1 ≤ n) (l Bs n₀ : Nat) (s a b : ByteArray) (is : Bool) (hcut : ∀ w, Calls Tryz.prog 95 #[.string s, .string ⟨#[47]⟩] w fun e w' => e = .returned (.tuple #[.string a, .string b, .bool is]) ∧ Ext w w')
    (J Jx : List (Fin 2) → World → Prop) (hE : ∀ A B, Ext A B → J [] A → J [] B)
    (hY : ∀ pre x W, J pre W → pre.length < 2 → pre = ups x.1 → (x.1 = 1 → is = true) → YieldAt Fence.wide (n - 1) Tryz.prog l #[.int .i64 (x.1 : Int), prt a b x.1] W fun e W' =>
      (e = .returned (.bool true) ∧ J (pre ++ [x]) W' ∧ Below n₀ W W') ∨ (e = .returned (.bool false) ∧ Jx (pre ++ [x]) W'))
    (W : World) (hBs : W.cell? ⟨Bs, 0, none⟩ = some (.string s)) (h0 : J [] W) :
    CallsIn Fence.wide n Tryz.prog 124 #[.func (.yield l) #[] #[], .pointer (some ⟨Bs, 0, none⟩)] W fun e W' => (∃ v, e = .returned v) ∧
      ((∃ ys, ys = partsOf is ∧ J ys W') ∨ (∃ pre, (∃ k, k < 2 ∧ pre = ups (k + 1)) ∧ Jx pre W')) := by
  refine callsIn_of_wp Tryz.func124 rfl trivial ?_ rfl
  simp only [Tryz.ntmps124, List.size_toArray, List.length_cons, List.length_nil, Nat.reduceAdd, Nat.reduceSub, Array.replicate_succ, Array.replicate_zero, List.push_toArray, List.append_toArray, List.nil_append, List.cons_append]
  refine wpIn_scope_wide ?_
  gi_wp2_with (refine ⟨trivial, ?_⟩; gi_at_call 95; refine (callsIn_wide.2 (hcut _)).mono ?_; rintro e w' ⟨rfl, hx⟩; have h0 := hE _ _ hx h0)
  refine wpIn_label ?_
  gi_wp2
  gi_loopw [17] (fun i wr => ∃ k : Nat, k ≤ 2 ∧ (k = 2 → is = true) ∧ i = .int .i64 (k : Int) ∧ J (ups k) wr)
    (fun i _ => 2 - (intOf i).toNat)
  case atStart => exact ⟨0, by omega, by omega, rfl, h0⟩
  case round =>
    obtain ⟨k, hk, his, rfl, hJs⟩ := hrel
    by_cases h2 : k = 2
    · subst h2
      have hi := his rfl
      subst hi
      gi_wp2
      go_end0
      exact ⟨⟨_, rfl⟩, .inl (by first | exact hJs | exact ⟨_, rfl, hJs⟩)⟩
    · by_cases hstop : k = 1 ∧ is = false
      · obtain ⟨rfl, rfl⟩ := hstop
        have hx1 : ∀ w, (Instr.index 145 (.agg #[.string a, .string b]) (.int .i64 1)).run Tryz.prog w = .ok (.string b) w := fun w => index_prt a b 1 (by omega) w
        gi_wp2
        refine ⟨fun f h => (by cases h), ?_⟩
        gi_wp2
        simp only [Exit.noGoto]
        go_end0
        exact ⟨⟨_, rfl⟩, .inl (by first | exact hJs | exact ⟨_, rfl, hJs⟩)⟩
      · have hk2 : k < 2 := by omega
        have hx1 : ∀ w, (Instr.index 145 (.agg #[.string a, .string b]) (.int .i64 1)).run Tryz.prog w = .ok (.string b) w := fun w => index_prt a b 1 (by omega) w
        have hx0 : ∀ w, (Instr.index 145 (.agg #[.string a, .string b]) (.int .i64 0)).run Tryz.prog w = .ok (.string a) w := fun w => index_prt a b 0 (by omega) w
        obtain ⟨fn, tmps, assign, body, hy, hR⟩ := hY _ (⟨k, hk2⟩ : Fin 2) wr hJs (by rw [ups_length _ hk]; omega) rfl (fun h => by
          cases is with
          | true => rfl
          | false => exact absurd ⟨h, rfl⟩ hstop)
        dsimp only at hy
        have hc : k = 0 ∨ (k = 1 ∧ is = true) := by
          rcases (by omega : k = 0 ∨ k = 1) with h | h
          · exact .inl h
          · right; refine ⟨h, ?_⟩; cases is with
            | true => rfl
            | false => exact absurd ⟨h, rfl⟩ hstop
        clear hstop his
        rcases hc with rfl | ⟨rfl, rfl⟩
        all_goals
          simp only [prt, if_true, Nat.one_ne_zero, if_false, Int.natCast_zero, Int.natCast_one, Nat.reduceEqDiff] at hy
          gi_wp2
          refine hR.mono ?_
          rintro e W3 (⟨rfl, hJ3, hk3⟩ | ⟨rfl, hJx3⟩)
          · gi_wp2
            go_roundw
            case rel => first | exact ⟨1, by omega, by omega, rfl, hJ3⟩ | exact ⟨2, by omega, fun _ => trivial, rfl, hJ3⟩
            case measure => simp [intOf]
          · gi_wp2
            simp only [Exit.noGoto]
            go_end0
            first
              | exact ⟨⟨_, rfl⟩, .inr ⟨_, ⟨0, by omega, rfl⟩, hJx3⟩⟩
              | exact ⟨⟨_, rfl⟩, .inr ⟨_, ⟨1, by omega, rfl⟩, hJx3⟩⟩
end Go.Proofs.YtmopgcbhmkemjaaGreatDoor

namespace Go.Proofs.YtmopgcbhmkemjaaGreatDoor
open Go Go.RowKit Go.Shelf
set_option linter.unusedSimpArgs false
set_option linter.unusedVariables false
set_option maxRecDepth 100000
attribute [local go_sem] Oper.semAt_some

theorem parts_in (n : Nat) (s : ByteArray) (w : World) :
    CallsIn Fence.wide n Tryz.prog 96 #[.string s] w fun e w' =>
      e = .returned (.func (.func 124) #[] #[.pointer (some ⟨w.heap.size, 0, none⟩)]) ∧ w' = w.alloc (.cells #[.string s] 9) := by
  refine callsIn_of_wp Tryz.func96 rfl trivial ?_ rfl
  simp only [Tryz.ntmps96, List.size_toArray, List.length_cons, List.length_nil, Nat.reduceAdd, Nat.reduceSub, Array.replicate_succ, Array.replicate_zero, List.push_toArray, List.append_toArray, List.nil_append, List.cons_append]
  gi_wp2
  go_ret
  exact ⟨rfl, rfl⟩
theorem hasPrefix_lite (s : ByteArray) (h0 : 0 < s.size) (hs : s.size < 1000000) (hb : ((s.extract 0 1).toList == [45]) = false) (w : World) :
    Calls Tryz.prog 132 #[.string s, .string ⟨#[45]⟩] w fun e w' => e = .returned (.bool false) ∧ w' = w := by
  have h1 : (1 : Int) ≤ s.size := by omega
  have h2 : 1 ≤ s.size := by omega
  go_enter Tryz.func132, Tryz.ntmps132
  go_wp2
  go_ret
  exact ⟨rfl, rfl⟩
theorem hasPrefix_no (s : ByteArray) (h0 : 0 < s.size) (hs : s.size < 1000000) (hb : ((s.extract 0 1).toList == [45]) = false) (w : World) :
    Calls Tryz.prog 98 #[.string s, .string ⟨#[45]⟩] w fun e w' => e = .returned (.bool false) ∧ w' = w := by
  have c := hasPrefix_lite s h0 hs hb w
  go_enter Tryz.func98, Tryz.ntmps98
  go_wp2_with (go_at_call 132; refine c.mono ?_; rintro e w' ⟨rfl, rfl⟩)
  go_ret
  exact ⟨rfl, rfl⟩
theorem Ext.grownBy {A B : World} (h : Ext A B) : A.grownBy B none := by
  have hb := h.below
  exact ⟨hb.os, hb.tape, hb.output, hb.size, fun k hk _ => hb.block k hk⟩
theorem parts_stops (n : Nat) (hn : 1 ≤ n) (Bs n₀ : Nat) (s a b : ByteArray) (is : Bool) (hcut : ∀ w, Calls Tryz.prog 95 #[.string s, .string ⟨#[47]⟩] w fun e w' => e = .returned (.tuple #[.string a, .string b, .bool is]) ∧ Ext w w')
    (w : World) (hc : w.cell? ⟨Bs, 0, none⟩ = some (.string s)) (hBl : Bs < w.heap.size) :
    SeqStopsK Fence.wide n Tryz.prog 124 #[.pointer (some ⟨Bs, 0, none⟩)] (fun x : Fin 2 => #[Value.int .i64 (x.1 : Int), prt a b x.1]) (Below n₀) (fun ys => ys = partsOf is) (fun pre => ∃ k, k < 2 ∧ pre = ups (k + 1)) 2 w :=
  fun l J Jx W hW hJ _ hY h0 => parts1_in n hn l Bs n₀ s a b is hcut J Jx (fun A B hx h => by
    refine hJ [] A B none h ?_ (fun r e => by cases e)
    exact Ext.grownBy hx) (fun pre x W h1 h2 _ _ => hY pre x W h1 h2) W ((hW.cell (p := ⟨Bs, 0, none⟩) hBl).trans hc) h0
/-- A text without the stroke: one part. -/
theorem parts_stops_one (n : Nat) (hn : 1 ≤ n) (Bs n₀ : Nat) (s a b : ByteArray) (hcut : ∀ w, Calls Tryz.prog 95 #[.string s, .string ⟨#[47]⟩] w fun e w' => e = .returned (.tuple #[.string a, .string b, .bool false]) ∧ Ext w w')
    (w : World) (hc : w.cell? ⟨Bs, 0, none⟩ = some (.string s)) (hBl : Bs < w.heap.size) :
    SeqStopsK Fence.wide n Tryz.prog 124 #[.pointer (some ⟨Bs, 0, none⟩)] (fun _ : Unit => #[Value.int .i64 0, .string a]) (Below n₀) (fun ys => ys = [()]) (fun _ => True) 1 w :=
  fun l J Jx W hW hJ _ hY h0 => by
    have h := parts1_in n hn l Bs n₀ s a b false hcut (fun pre W => J (pre.map fun _ => ()) W) (fun pre W => Jx (pre.map fun _ => ()) W) (fun A B hx h => by
      refine hJ [] A B none h ?_ (fun r e => by cases e)
      exact Ext.grownBy hx) (fun pre x W h1 _ h3 h4 => by
        have hx0 : x.1 = 0 := by
          have := x.2
          rcases (by omega : x.1 = 0 ∨ x.1 = 1) with h | h
          · exact h
          · cases h4 h
        have hp : pre = [] := by rw [h3, hx0]; rfl
        subst hp
        have := hY [] () W h1 (by simp)
        rw [hx0]
        exact this) W ((hW.cell (p := ⟨Bs, 0, none⟩) hBl).trans hc) h0
    refine h.mono ?_
    rintro e W' ⟨hv, (⟨ys, rfl, hj⟩ | ⟨pre, _, hj⟩)⟩
    · exact ⟨hv, .inl ⟨_, rfl, hj⟩⟩
    · exact ⟨hv, .inr ⟨_, trivial, hj⟩⟩
end Go.Proofs.YtmopgcbhmkemjaaGreatDoor

namespace Go.Proofs.YtmopgcbhmkemjaaGreatDoor
open Go Go.RowKit Go.Shelf
set_option linter.unusedSimpArgs false
set_option linter.unusedVariables false
set_option maxRecDepth 100000
attribute [local go_sem] Oper.semAt_some

set_option maxHeartbeats 4000000 in
theorem pparts1_in (n : Nat) (hn : 1 ≤ n) (l Bs n₀ : Nat) (s a b : ByteArray) (is : Bool) (hcut : ∀ w, Calls Tryz.prog 95 #[.string s, .string ⟨#[32]⟩] w fun e w' => e = .returned (.tuple #[.string a, .string b, .bool is]) ∧ Ext w w')
    (J Jx : List (Fin 2) → World → Prop) (hE : ∀ A B, Ext A B → J [] A → J [] B)
    (hY : ∀ pre x W, J pre W → pre.length < 2 → pre = ups x.1 → YieldAt Fence.wide (n - 1) Tryz.prog l #[prt a b x.1] W fun e W' =>
      (e = .returned (.bool true) ∧ J (pre ++ [x]) W' ∧ Below n₀ W W') ∨ (e = .returned (.bool false) ∧ Jx (pre ++ [x]) W'))
    (W : World) (hBs : W.cell? ⟨Bs, 0, none⟩ = some (.string s)) (h0 : J [] W) :
    CallsIn Fence.wide n Tryz.prog 94 #[.func (.yield l) #[] #[], .pointer (some ⟨Bs, 0, none⟩)] W fun e W' => (∃ v, e = .returned v) ∧
      ((∃ ys, ys = ([0, 1] : List (Fin 2)) ∧ J ys W') ∨ (∃ pre, (∃ k, k < 2 ∧ pre = ups (k + 1)) ∧ Jx pre W')) := by
  refine callsIn_of_wp Tryz.func94 rfl trivial ?_ rfl
  simp only [Tryz.ntmps94, List.size_toArray, List.length_cons, List.length_nil, Nat.reduceAdd, Nat.reduceSub, Array.replicate_succ, Array.replicate_zero, List.push_toArray, List.append_toArray, List.nil_append, List.cons_append]
  refine wpIn_scope_wide ?_
  gi_wp2_with (refine ⟨trivial, ?_⟩; gi_at_call 95; refine (callsIn_wide.2 (hcut _)).mono ?_; rintro e w' ⟨rfl, hx⟩; have h0 := hE _ _ hx h0)
  refine wpIn_label ?_
  gi_wp2
  gi_loopw [17] (fun i wr => ∃ k : Nat, k ≤ 2 ∧ i = .int .i64 (k : Int) ∧ J (ups k) wr)
    (fun i _ => 2 - (intOf i).toNat)
  case atStart => exact ⟨0, by omega, rfl, h0⟩
  case round =>
    obtain ⟨k, hk, rfl, hJs⟩ := hrel
    by_cases h2 : k = 2
    · subst h2
      gi_wp2
      simp only [Exit.noGoto]
      go_end0
      exact ⟨⟨_, rfl⟩, .inl (by first | exact hJs | exact ⟨_, rfl, hJs⟩)⟩
    · have hk2 : k < 2 := by omega
      have hx1 : ∀ w, (Instr.index 145 (.agg #[.string a, .string b]) (.int .i64 1)).run Tryz.prog w = .ok (.string b) w := fun w => index_prt a b 1 (by omega) w
      have hx0 : ∀ w, (Instr.index 145 (.agg #[.string a, .string b]) (.int .i64 0)).run Tryz.prog w = .ok (.string a) w := fun w => index_prt a b 0 (by omega) w
      obtain ⟨fn, tmps, assign, body, hy, hR⟩ := hY _ (⟨k, hk2⟩ : Fin 2) wr hJs (by rw [ups_length _ hk]; omega) rfl
      dsimp only at hy
      have hc : k = 0 ∨ k = 1 := by omega
      rcases hc with rfl | rfl
      all_goals
        simp only [prt, if_true, Nat.one_ne_zero, if_false, Int.natCast_zero, Int.natCast_one, Nat.reduceEqDiff] at hy
        gi_wp2
        refine hR.mono ?_
        rintro e W3 (⟨rfl, hJ3, hk3⟩ | ⟨rfl, hJx3⟩)
        · gi_wp2
          go_roundw
          case rel => first | exact ⟨1, by omega, rfl, hJ3⟩ | exact ⟨2, by omega, rfl, hJ3⟩
          case measure => simp [intOf]
        · gi_wp2
          simp only [Exit.noGoto]
          go_end0
          first
            | exact ⟨⟨_, rfl⟩, .inr ⟨_, ⟨0, by omega, rfl⟩, hJx3⟩⟩
            | exact ⟨⟨_, rfl⟩, .inr ⟨_, ⟨1, by omega, rfl⟩, hJx3⟩⟩
theorem pparts_in (n : Nat) (s : ByteArray) (w : World) :
    CallsIn Fence.wide n Tryz.prog 61 #[.string s] w fun e w' =>
      e = .returned (.func (.func 94) #[] #[.pointer (some ⟨w.heap.size, 0, none⟩)]) ∧ w' = w.alloc (.cells #[.string s] 9) := by
  refine callsIn_of_wp Tryz.func61 rfl trivial ?_ rfl
  simp only [Tryz.ntmps61, List.size_toArray, List.length_cons, List.length_nil, Nat.reduceAdd, Nat.reduceSub, Array.replicate_succ, Array.replicate_zero, List.push_toArray, List.append_toArray, List.nil_append, List.cons_append]
  gi_wp2
  go_ret
  exact ⟨rfl, rfl⟩
theorem pparts_stops (n : Nat) (hn : 1 ≤ n) (Bs n₀ : Nat) (s a b : ByteArray) (is : Bool) (hcut : ∀ w, Calls Tryz.prog 95 #[.string s, .string ⟨#[32]⟩] w fun e w' => e = .returned (.tuple #[.string a, .string b, .bool is]) ∧ Ext w w')
    (w : World) (hc : w.cell? ⟨Bs, 0, none⟩ = some (.string s)) (hBl : Bs < w.heap.size) :
    SeqStopsK Fence.wide n Tryz.prog 94 #[.pointer (some ⟨Bs, 0, none⟩)] (fun x : Fin 2 => #[prt a b x.1]) (Below n₀) (fun ys => ys = ([0, 1] : List (Fin 2))) (fun pre => ∃ k, k < 2 ∧ pre = ups (k + 1)) 2 w :=
  fun l J Jx W hW hJ _ hY h0 => pparts1_in n hn l Bs n₀ s a b is hcut J Jx (fun A B hx h => by
    refine hJ [] A B none h ?_ (fun r e => by cases e)
    exact Ext.grownBy hx) (fun pre x W h1 h2 _ => hY pre x W h1 h2) W ((hW.cell (p := ⟨Bs, 0, none⟩) hBl).trans hc) h0
end Go.Proofs.YtmopgcbhmkemjaaGreatDoor

namespace Go.Proofs.YtmopgcbhmkemjaaGreatDoor
open Go Go.RowKit
set_option linter.unusedSimpArgs false
set_option linter.unusedVariables false
set_option maxRecDepth 100000

theorem scut_at (s : ByteArray) (i : Nat) (hi : i < s.size) (hs : s.size < 1000000) (hx : Lib.indexByte s.data.toList 47 = (i : Int)) (w : World) :
    Calls Tryz.prog 123 #[.string s, .string ⟨#[47]⟩] w fun e w' => e = .returned (.tuple #[.string (s.extract 0 i), .string (s.extract (i + 1) s.size), .bool true]) ∧ Ext w w' := by
  have hc := fun w => Tryz.stringslite_Index_one s 47 w
  rw [hx] at hc
  have h1 : decide ((i : Int) ≥ 0) = true := by simp
  have hii : (i : Int) < s.size := by omega
  have hi1 : (i : Int) + 1 ≤ s.size := by omega
  have hw1 : IntKind.i64.wrap ((i : Int) + 1) = (i : Int) + 1 := by rw [IntKind.wrap_i64]; omega
  have hw2 : ((i : Int) + 1).toNat = i + 1 := by omega
  have hw3 : 0 ≤ (i : Int) + 1 := by omega
  have hi2 : i ≤ s.size := by omega
  have hi3 : i + 1 ≤ s.size := by omega
  go_enter Tryz.func123, Tryz.ntmps123
  go_wp2_with (go_at_call 154; refine (hc _).mono ?_; rintro e w' ⟨rfl, rfl⟩)
  (first | refine wp_region_k' [.p, .p, .p, .p, .p, .p, .r, .p, .p, .p, .p, .p] (by kernel_rfl) (by kernel_rfl) ?_ | refine wp_region_k [.p, .p, .p, .p, .p, .p, .r, .p, .p, .p, .p, .p] (by kernel_rfl) (by kernel_rfl) ?_); (repeat (first | (refine wpK_p rfl (fun K hK => ?_); go_simp; refine hK _ _ ?_; clear hK K) | (refine wpK_r rfl (fun K hK => ?_); go_simp; refine hK _ _ ?_; clear hK K) | (refine wpK_w rfl (fun K hK => ?_); go_simp; refine hK _ _ ?_; clear hK K) | (refine wpK_r rfl (fun K hK => ?_); go_simp; apply Exists.intro; refine ⟨fun d => ?_, hK _ _ ?_⟩; (fail); clear hK K))); refine wpK_nil ?_; intro d
  go_wp2
  exact bodyPost_ret (v := .tuple #[.string (s.extract 0 i), .string (s.extract (i + 1) s.size), .bool true]) (by simp [results, Tryz.results123, go_sem]) rfl ⟨rfl, (by repeat (first | (with_reducible exact Ext.refl _) | (with_reducible assumption) | (with_reducible apply Ext.grow) | (with_reducible apply Ext.alloc) | (with_reducible apply Ext.drew) | ((with_reducible apply Ext.set); (case hb => (first | omega | (simp; omega))))))⟩
theorem cCut_at (s : ByteArray) (i : Nat) (hi : i < s.size) (hs : s.size < 1000000) (hx : Lib.indexByte s.data.toList 47 = (i : Int)) (w : World) :
    Calls Tryz.prog 95 #[.string s, .string ⟨#[47]⟩] w fun e w' => e = .returned (.tuple #[.string (s.extract 0 i), .string (s.extract (i + 1) s.size), .bool true]) ∧ Ext w w' := by
  have hc := scut_at s i hi hs hx
  go_enter Tryz.func95, Tryz.ntmps95
  go_wp2_with (go_at_call 123; refine (hc _).mono ?_; rintro e w' ⟨rfl, d, rfl⟩)
  exact bodyPost_ret (v := .tuple #[.string (s.extract 0 i), .string (s.extract (i + 1) s.size), .bool true]) (by simp [results, Tryz.results95, go_sem]) rfl ⟨rfl, (by repeat (first | (with_reducible exact Ext.refl _) | (with_reducible assumption) | (with_reducible apply Ext.grow) | (with_reducible apply Ext.alloc) | (with_reducible apply Ext.drew) | ((with_reducible apply Ext.set); (case hb => (first | omega | (simp; omega))))))⟩
end Go.Proofs.YtmopgcbhmkemjaaGreatDoor

namespace Go.Proofs.YtmopgcbhmkemjaaGreatDoor
open Go Go.RowKit Go.Shelf
set_option linter.unusedSimpArgs false
set_option linter.unusedVariables false
set_option maxRecDepth 100000
attribute [local go_sem] Oper.semAt_some

theorem wpIn_rebase {F : Fence} {n : Nat} {P : Program} {c : Code} {Q : Exit → Act → World → Prop} {a : Act} {W : World} (h : ∀ v, v = W → c.wpIn F n P Q a v) : c.wpIn F n P Q a W := h W rfl
/-- What lies in l when those of pre have been. -/
def two (sa : Bool) (ma mb : Nat) (pre : List (Fin 2)) : Array Value :=
  (if (0 : Fin 2) ∈ pre then ints1 sa ma else #[.bool false, .int .u64 0, .int .u64 0, .int .u64 0, .int .u64 0]) ++ (if (1 : Fin 2) ∈ pre then ints1 false mb else ints1 false 1)
theorem two_lit (sa : Bool) (ma mb : Nat) (pre : List (Fin 2)) : ∃ c0 c1 c2 c3 c4 d0 d1 d2 d3 d4 : Value, two sa ma mb pre = #[c0, c1, c2, c3, c4, d0, d1, d2, d3, d4] ∧
    two sa ma mb (pre ++ [0]) = #[.bool sa, q64 (wn ma 0), q64 (wn ma 1), q64 (wn ma 2), q64 (wn ma 3), d0, d1, d2, d3, d4] ∧ two sa ma mb (pre ++ [1]) = #[c0, c1, c2, c3, c4, .bool false, q64 (wn mb 0), q64 (wn mb 1), q64 (wn mb 2), q64 (wn mb 3)] := by
  have e0 : (0 : Fin 2) ∈ pre ++ [0] := by simp
  have e1 : (1 : Fin 2) ∈ pre ++ [1] := by simp
  have e2 : (1 : Fin 2) ∈ pre ++ [0] ↔ (1 : Fin 2) ∈ pre := by simp
  have e3 : (0 : Fin 2) ∈ pre ++ [1] ↔ (0 : Fin 2) ∈ pre := by simp
  unfold two
  by_cases h0 : (0 : Fin 2) ∈ pre <;> by_cases h1 : (1 : Fin 2) ∈ pre <;> simp only [e0, e1, e2, e3, h0, h1, if_true, if_false] <;>
    exact ⟨_, _, _, _, _, _, _, _, _, _, rfl, rfl, rfl⟩
abbrev zR : Array Value := #[.bool false, .int .u64 0, .int .u64 0, .int .u64 0, .int .u64 0, .bool false, .int .u64 0, .int .u64 0, .int .u64 0, .int .u64 0]
theorem own_blk {β : Type} (b : Nat) (cs : β → Array Value) (T : TypeId) : Own (fun (s : β) W => Blk W b (cs s) T) := fun s W W' row h hg hr => by
  refine h.grown hg ?_
  intro e
  obtain ⟨o, ho, hc⟩ := hr b e.symm
  unfold Blk at h
  rw [h] at ho; cases ho; simp [Obj.isCells] at hc
theorem bpM_rebase {F : Fence} {n : Nat} {P : Program} {f : Func} {R : Ending → World → Prop} {e : Exit} {a : Act} {W : World} (h : ∀ v, v = W → bodyPostM F n P f R e a v) : bodyPostM F n P f R e a W := h W rfl
theorem keeps_ext {B : Nat} {W W' : World} (h : Ext W W') : KeepsFrom B W W' := .of_grownBy h.grownBy (fun j e => by cases e)
theorem keepsGrow {B : Nat} {W W' : World} {d : Gr} (h : KeepsFrom B W W') : KeepsFrom B W (grow W' d) := h.trans (keeps_ext ⟨d, rfl⟩)
theorem keepsCell {B b o : Nat} {v : Value} {W W' : World} (h : KeepsFrom B W W') (hb : b < B) : KeepsFrom B W (W'.setCell ⟨b, o, none⟩ v) :=
  ⟨by simpa using h.size, fun k x hB hk hx => (Below.heap_setCell W' ⟨b, o, none⟩ v k (by show k ≠ b; omega)).trans (h.same k x hB hk hx)⟩
theorem belowGrow {n : Nat} {W W' : World} {d : Gr} (h : Below n W W') (hn : n ≤ W'.heap.size) : Below n W (grow W' d) := h.trans ((show Ext W' (grow W' d) from ⟨d, rfl⟩).below.mono hn)
theorem belowCell {n b o : Nat} {v : Value} {W W' : World} (h : Below n W W') (hb : n ≤ b) : Below n W (W'.setCell ⟨b, o, none⟩ v) := h.setCell (p := ⟨b, o, none⟩) hb v
set_option maxHeartbeats 8000000 in
theorem rParse_in (n : Nat) (hn : 3 ≤ n) (s a b : ByteArray) (hcut : ∀ w, Calls Tryz.prog 95 #[.string s, .string ⟨#[47]⟩] w fun e w' => e = .returned (.tuple #[.string a, .string b, .bool true]) ∧ Ext w w')
    (sa : Bool) (ma mb : Nat) (ha : ma < B4) (hb : mb < B4)
    (ca : ∀ w, Calls Tryz.prog 97 #[.string a] w fun e w' => e = .returned (.tuple #[intV sa ma, .int .i64 0]) ∧ Ext w w')
    (cb : ∀ w, Calls Tryz.prog 97 #[.string b] w fun e w' => e = .returned (.tuple #[intV false mb, .int .i64 0]) ∧ Ext w w')
    (h48 : (b.toList == [48]) = false) (h49 : (b.toList == [49]) = false) (ch : ∀ w, Calls Tryz.prog 98 #[.string b, .string ⟨#[45]⟩] w fun e w' => e = .returned (.bool false) ∧ w' = w)
    (rv : Value) (re : Int) (hres : (okR sa ma false mb = true ∧ rv = ratV sa ma false mb ∧ re = 0) ∨ (okR sa ma false mb = false ∧ rv = qZ ∧ re = 120)) (w : World) :
    CallsIn Fence.wide n Tryz.prog 62 #[.string s] w fun e w' => e = .returned (.tuple #[rv, .int .i64 re]) ∧ Below w.heap.size w w' := by
  refine callsIn_of_wp_marks Tryz.func62 rfl trivial ?_ rfl
  simp only [Tryz.ntmps62, List.size_toArray, List.length_cons, List.length_nil, Nat.reduceAdd, Nat.reduceSub, Array.replicate_succ, Array.replicate_zero, List.push_toArray, List.append_toArray, List.nil_append, List.cons_append]
  gi_wp2_with (first
    | (refine ⟨trivial, (fun _ => by omega), ?_⟩; gi_at_call 93; refine (callsIn_wide.2 (one_any _)).mono ?_; rintro e w' ⟨rfl, d, rfl⟩)
    | (refine ⟨trivial, (fun _ => by omega), ?_⟩; gi_at_call 96; refine (parts_in (n - 1) _ _).mono ?_; rintro e w' ⟨rfl, rfl⟩))
  refine wpIn_rebase fun v hv => ?_
  have hx : Ext w v := by rw [hv]; exact ext_auto
  have B2 : Blk v w.heap.size zR 29 := by rw [hv]; exact blk_auto
  have B3 : Blk v (w.heap.size + 1) #[.int .i64 0] 33 := by rw [hv]; exact blk_auto
  have hl : w.heap.size + 1 < w.heap.size + 1 + 1 + d.obs.size := by omega
  have BL : Blk v (w.heap.size + 1 + 1 + d.obs.size) (two sa ma mb []) 146 := by rw [hv]; apply Blk.alloc; apply Blk.alloc; exact Blk.new _ _ _ (by simp)
  have BV : Blk v (w.heap.size + 1 + 1 + d.obs.size + 1) #[.bool false] 4 := by rw [hv]; apply Blk.alloc; exact Blk.new _ _ _ (by simp)
  have BS : Blk v (w.heap.size + 1 + 1 + d.obs.size + 1 + 1) #[.string s] 9 := by rw [hv]; exact Blk.new _ _ _ (by simp)
  clear hv
  generalize w.heap.size + 1 + 1 + d.obs.size = b4 at *
  have hst := parts_stops (n - 1) (by omega) (b4 + 1 + 1) w.heap.size s a b true hcut v (BS.cell 0) BS.lt
  have hB0 : Below w.heap.size w v := hx.below
  refine wpIn_rangeFunc_ownG rfl (by omega) (gf := 124) (lb := #[.pointer (some ⟨b4 + 1 + 1, 0, none⟩)]) rfl trivial (enters_of Tryz.func124 (by kernel_rfl) rfl)
    hst belowK_t (belowK_b (by have := BS.lt; omega)) (Below.refl _ _) (fun _ => rfl)
    (fun pre W => (Blk W b4 (two sa ma mb pre) 146 ∧ Blk W (b4 + 1) #[.bool false] 4 ∧ Blk W w.heap.size zR 29 ∧ Blk W (w.heap.size + 1) #[.int .i64 0] 33) ∧ Below w.heap.size w W)
    (fun c pre W => False)
    (OwnFrom.and (OwnFrom.and ((own_blk _ _ _).from _) (OwnFrom.and ((own_blk _ (fun _ => _) _).from _) (OwnFrom.and ((own_blk _ (fun _ => _) _).from _) ((own_blk _ (fun _ => _) _).from _)))) (ownFrom_below (Nat.le_refl _) (by have := BS.lt; omega)))
    (fun c => fun s W W' row hs => hs.elim)
    ⟨⟨BL, BV, B2, B3⟩, hB0⟩
    (fun x => { tmps := #[.string s, undef, .pointer (some ⟨w.heap.size, 0, none⟩), .pointer (some ⟨w.heap.size + 1, 0, none⟩), .pointer (some ⟨b4, 0, none⟩), .pointer (some ⟨b4 + 1, 0, none⟩), .int .i64 (x.1 : Int), prt a b x.1, undef, .agg #[.bool false, .int .u64 0, .int .u64 0, .int .u64 0, .int .u64 0], intV false 1, .agg #[.bool false, .int .u64 0, .int .u64 0, .int .u64 0, .int .u64 0, .bool false, q64 (wn 1 0), q64 (wn 1 1), q64 (wn 1 2), q64 (wn 1 3)], .string s, .func (.func 124) #[] #[.pointer (some ⟨b4 + 1 + 1, 0, none⟩)], .int .i64 (x.1 : Int), prt a b x.1, undef, undef, undef, undef, undef, undef, undef, undef, undef, undef, undef, undef, undef, undef, undef, undef, undef, undef, undef, undef, undef, undef, undef, undef, undef, undef, undef, undef, undef, undef, undef, undef, undef, undef, undef, undef, undef, undef, undef, undef, undef, undef, undef], defers := [] }) ?assign ?body ?done ?stop
  case assign =>
    intro l x W K hK
    gi_wp2
    exact hK
  case stop =>
    rintro D c pre W hD _ h _
    exact h.elim
  case body =>
    rintro l pre x W ⟨⟨BL, BV, B2, B3⟩, hB⟩ _
    have hx2 : x = 0 ∨ x = 1 := by omega
    obtain ⟨c0, c1, c2, c3, c4, d0, d1, d2, d3, d4, t1, t2, t3⟩ := two_lit sa ma mb pre
    rw [t1] at BL
    have lBL := BL.lt; have cBL := BL.cell; have fBL := BL.frozen; have lBV := BV.lt; have cBV := BV.cell; have fBV := BV.frozen; have lB2 := B2.lt; have cB2 := B2.cell; have fB2 := B2.frozen; have lB3 := B3.lt; have cB3 := B3.cell; have fB3 := B3.frozen
    rcases hx2 with rfl | rfl
    · gi_wp2_with (refine ⟨trivial, (fun _ => by omega), ?_⟩; gi_at_call 97; refine (CallsIn.inRound l (callsIn_wide.2 (ca _))).mono ?_; rintro e w' ⟨rfl, hx⟩; have BL' := BL.ext hx; have BV' := BV.ext hx; have lBL' := BL'.lt; have cBL' := BL'.cell; have fBL' := BL'.frozen; have lBV' := BV'.lt; have cBV' := BV'.cell; have fBV' := BV'.frozen)
      refine ⟨trivial, ?_⟩
      gi_wp2
      have lS := BS.lt
      have l4 : b4 < v.heap.size := by omega
      have l5 : b4 + 1 < v.heap.size := by omega
      have g4 : w.heap.size ≤ b4 := by omega
      have g5 : w.heap.size ≤ b4 + 1 := by omega
      have hbW : Below w.heap.size W w' := hx.below.mono hB.size
      have B2' := B2.ext hx
      have B3' := B3.ext hx
      refine ⟨keepsCell (keepsCell (keepsCell (keepsCell (keepsCell (keepsCell (keeps_ext hx) l4) l4) l4) l4) l4) l5, belowCell (belowCell (belowCell (belowCell (belowCell (belowCell (hbW) g4) g4) g4) g4) g4) g5, ⟨?_, ?_, ?_, ?_⟩, belowCell (belowCell (belowCell (belowCell (belowCell (belowCell (hB.trans hbW) g4) g4) g4) g4) g4) g5⟩
      · rw [t2]; exact ((((((BL'.setSame (o := 0)).setSame (o := 1)).setSame (o := 2)).setSame (o := 3)).setSame (o := 4)).setOther (by omega))
      · exact ((((((BV'.setOther (by omega)).setOther (by omega)).setOther (by omega)).setOther (by omega)).setOther (by omega)).setSame (o := 0))
      · exact ((((((B2'.setOther (by omega)).setOther (by omega)).setOther (by omega)).setOther (by omega)).setOther (by omega)).setOther (by omega))
      · exact ((((((B3'.setOther (by omega)).setOther (by omega)).setOther (by omega)).setOther (by omega)).setOther (by omega)).setOther (by omega))
    · gi_wp2_with (first | (refine ⟨trivial, (fun _ => by omega), ?_⟩; gi_at_call 97; refine (CallsIn.inRound l (callsIn_wide.2 (cb _))).mono ?_; rintro e w' ⟨rfl, hx⟩; have BL' := BL.ext hx; have BV' := BV.ext hx; have lBL' := BL'.lt; have cBL' := BL'.cell; have fBL' := BL'.frozen; have lBV' := BV'.lt; have cBV' := BV'.cell; have fBV' := BV'.frozen) | (refine ⟨trivial, (fun _ => by omega), ?_⟩; gi_at_call 98; refine (CallsIn.inRound l (callsIn_wide.2 (ch _))).mono ?_; rintro e w2 ⟨rfl, rfl⟩))
      have lS := BS.lt
      have l4 : b4 < v.heap.size := by omega
      have l5 : b4 + 1 < v.heap.size := by omega
      have g4 : w.heap.size ≤ b4 := by omega
      have g5 : w.heap.size ≤ b4 + 1 := by omega
      have hbW : Below w.heap.size W w' := hx.below.mono hB.size
      have B2' := B2.ext hx
      have B3' := B3.ext hx
      refine ⟨keepsCell (keepsCell (keepsCell (keepsCell (keepsCell (keepsCell (keeps_ext hx) l4) l4) l4) l4) l4) l5, belowCell (belowCell (belowCell (belowCell (belowCell (belowCell (hbW) g4) g4) g4) g4) g4) g5, ⟨?_, ?_, ?_, ?_⟩, belowCell (belowCell (belowCell (belowCell (belowCell (belowCell (hB.trans hbW) g4) g4) g4) g4) g4) g5⟩
      · rw [t3]; exact ((((((BL'.setSame (o := 5)).setSame (o := 6)).setSame (o := 7)).setSame (o := 8)).setSame (o := 9)).setOther (by omega))
      · exact ((((((BV'.setOther (by omega)).setOther (by omega)).setOther (by omega)).setOther (by omega)).setOther (by omega)).setSame (o := 0))
      · exact ((((((B2'.setOther (by omega)).setOther (by omega)).setOther (by omega)).setOther (by omega)).setOther (by omega)).setOther (by omega))
      · exact ((((((B3'.setOther (by omega)).setOther (by omega)).setOther (by omega)).setOther (by omega)).setOther (by omega)).setOther (by omega))
  case done =>
    rintro D ys W hD rfl ⟨⟨BL, BV, B2, B3⟩, hB⟩ hK
    have e2 : two sa ma mb (partsOf true) = #[.bool sa, q64 (wn ma 0), q64 (wn ma 1), q64 (wn ma 2), q64 (wn ma 3), .bool false, q64 (wn mb 0), q64 (wn mb 1), q64 (wn mb 2), q64 (wn mb 3)] := by simp [two, partsOf]
    rw [e2] at BL
    have lBL := BL.lt; have cBL := BL.cell; have fBL := BL.frozen; have lBV := BV.lt; have cBV := BV.cell; have fBV := BV.frozen; have lB2 := B2.lt; have cB2 := B2.cell; have fB2 := B2.frozen; have lB3 := B3.lt; have cB3 := B3.cell; have fB3 := B3.frozen
    rcases hres with ⟨hok, rfl, rfl⟩ | ⟨hok, rfl, rfl⟩
    · have ck := rcheck_yes sa ma false mb ha hb hok
      gi_wp2_with (refine ⟨trivial, (fun _ => by omega), ?_⟩; gi_at_call 40; refine (callsIn_wide.2 (ck _)).mono ?_; rintro e w3 ⟨rfl, d3, rfl⟩)
      refine bpM_rebase fun u hu => ?_
      have lS := BS.lt
      have hKD : KeepsFrom v.heap.size W u := by
        rw [hu]; repeat (with_reducible first | exact KeepsFrom.refl _ _ | apply keepsGrow | (refine keepsCell ?_ (by omega)))
      have hK' := hKD.same D _ hD hK rfl
      have BF : Blk u w.heap.size #[.bool sa, q64 (wn ma 0), q64 (wn ma 1), q64 (wn ma 2), q64 (wn ma 3), .bool false, q64 (wn mb 0), q64 (wn mb 1), q64 (wn mb 2), q64 (wn mb 3)] 29 := by rw [hu]; exact blk_auto
      have BE : Blk u (w.heap.size + 1) #[.int .i64 0] 33 := by rw [hu]; exact blk_auto
      have BF5 := own_blk (β := Unit) w.heap.size (fun _ => _) _ () u _ (some D) BF (grownBy_putObj' u D (.deferred none)) (fun r e => by cases e; exact ⟨_, hK', rfl⟩)
      have BE5 := own_blk (β := Unit) (w.heap.size + 1) (fun _ => _) _ () u _ (some D) BE (grownBy_putObj' u D (.deferred none)) (fun r e => by cases e; exact ⟨_, hK', rfl⟩)
      have lBF5 := BF5.lt; have cBF5 := BF5.cell; have fBF5 := BF5.frozen; have lBE5 := BE5.lt; have cBE5 := BE5.cell; have fBE5 := BE5.frozen; clear BF5 BE5
      refine ⟨by simp, .inl ⟨_, _, rfl, run_takeDeferred hK', ?_⟩⟩
      have hBu : Below w.heap.size w u := by
        rw [hu]; repeat (with_reducible first | exact hB | (refine belowGrow ?_ (by simp; omega)) | (refine belowCell ?_ (by omega)))
      refine ⟨.tuple #[ratV sa ma false mb, .int .i64 0], ?_, ?_⟩
      · simp [results, Tryz.results62, go_sem, cBF5, cBE5]
      · exact ⟨by simp, hBu.trans (belowK_b (w := w) (Nat.le_refl _) u D _ _ (by omega) hK' rfl rfl)⟩
    · have ck := rcheck_no sa ma false mb ha hb hok
      gi_wp2_with (refine ⟨trivial, (fun _ => by omega), ?_⟩; gi_at_call 40; refine (callsIn_wide.2 (ck _)).mono ?_; rintro e w3 ⟨rfl, d3, rfl⟩)
      refine bpM_rebase fun u hu => ?_
      have lS := BS.lt
      have hKD : KeepsFrom v.heap.size W u := by
        rw [hu]; repeat (with_reducible first | exact KeepsFrom.refl _ _ | apply keepsGrow | (refine keepsCell ?_ (by omega)))
      have hK' := hKD.same D _ hD hK rfl
      have BF : Blk u w.heap.size zR 29 := by rw [hu]; exact blk_auto
      have BE : Blk u (w.heap.size + 1) #[.int .i64 120] 33 := by rw [hu]; exact blk_auto
      have BF5 := own_blk (β := Unit) w.heap.size (fun _ => _) _ () u _ (some D) BF (grownBy_putObj' u D (.deferred none)) (fun r e => by cases e; exact ⟨_, hK', rfl⟩)
      have BE5 := own_blk (β := Unit) (w.heap.size + 1) (fun _ => _) _ () u _ (some D) BE (grownBy_putObj' u D (.deferred none)) (fun r e => by cases e; exact ⟨_, hK', rfl⟩)
      have lBF5 := BF5.lt; have cBF5 := BF5.cell; have fBF5 := BF5.frozen; have lBE5 := BE5.lt; have cBE5 := BE5.cell; have fBE5 := BE5.frozen; clear BF5 BE5
      refine ⟨by simp, .inl ⟨_, _, rfl, run_takeDeferred hK', ?_⟩⟩
      have hBu : Below w.heap.size w u := by
        rw [hu]; repeat (with_reducible first | exact hB | (refine belowGrow ?_ (by simp; omega)) | (refine belowCell ?_ (by omega)))
      refine ⟨.tuple #[qZ, .int .i64 120], ?_, ?_⟩
      · simp [results, Tryz.results62, go_sem, cBF5, cBE5]
      · exact ⟨by simp, hBu.trans (belowK_b (w := w) (Nat.le_refl _) u D _ _ (by omega) hK' rfl rfl)⟩
end Go.Proofs.YtmopgcbhmkemjaaGreatDoor

namespace Go.Proofs.YtmopgcbhmkemjaaGreatDoor
open Go Go.RowKit
set_option linter.unusedSimpArgs false
set_option linter.unusedVariables false
set_option maxRecDepth 100000

theorem Parse_clear (b : Nat) (W : World) (y0 y1 y2 y3 y4 : Value) (h : Blk W b #[y0, y1, y2, y3, y4] 27) :
    Calls Tryz.prog 126 #[.pointer (some ⟨b, 0, none⟩)] W fun e w' => e = .returned (.tuple #[]) ∧
      w' = ((((W.setCell ⟨b, 0, none⟩ (.bool false)).setCell ⟨b, 1, none⟩ (.int .u64 0)).setCell ⟨b, 2, none⟩ (.int .u64 0)).setCell ⟨b, 3, none⟩ (.int .u64 0)).setCell ⟨b, 4, none⟩ (.int .u64 0) := by
  have lh := h.lt; have ch := h.cell; have fh := h.frozen; clear h
  go_enter Tryz.func126, Tryz.ntmps126
  go_wp2
  go_end0
  exact ⟨rfl, rfl⟩
set_option maxHeartbeats 4000000 in
theorem Parse_empty (w : World) :
    Calls Tryz.prog 97 #[.string ⟨#[]⟩] w fun e w' => e = .returned (.tuple #[intV false 0, .int .i64 111]) ∧ Ext w w' := by
  have hmf : ∀ (fn : Fn) (first cap : Array Value) (w : World), (Instr.makeFunc fn first cap).run Tryz.prog w = .ok (.func fn first cap) w := fun _ _ _ _ => rfl
  obtain ⟨cap, W, hcv, hxW, HD, _, hsz, _⟩ := conv_dec ⟨#[]⟩ 0 [] rfl (fun i hi => by simp at hi) (fun i => by simp) ((w.alloc (.cells #[.bool false, .int .u64 0, .int .u64 0, .int .u64 0, .int .u64 0] 27)).alloc (.cells #[.int .i64 0] 33))
  have BO : Blk W w.heap.size #[.bool false, .int .u64 0, .int .u64 0, .int .u64 0, .int .u64 0] 27 := Blk.ext blk_auto hxW
  have BE : Blk W (w.heap.size + 1) #[.int .i64 0] 33 := Blk.ext blk_auto hxW
  have hx : Ext w W := Ext.trans ext_auto hxW
  simp only [World.size_alloc, Nat.zero_add, List.length_nil] at hcv HD hsz
  clear HD
  have lBO := BO.lt; have cBO := BO.cell; have fBO := BO.frozen; have lBE := BE.lt; have cBE := BE.cell; have fBE := BE.frozen
  go_enter_defers Tryz.func97, Tryz.ntmps97
  go_wp2_with (go_at_call 127; refine (must_no _ _).mono ?_; rintro e w' ⟨rfl, rfl⟩)
  refine leaves_limb_pan 0 111 126 _ (by simp [cBE, BE.cell]) (BE.frozen 0) (fun _ _ => by kernel_rfl) ?_
  refine (Parse_clear _ _ _ _ _ _ _ (BO.setOther (by omega))).mono ?_
  rintro e' u ⟨rfl, hu⟩
  have hy : Ext w u := by rw [hu]; exact ext_auto
  have BF : Blk u w.heap.size #[.bool false, .int .u64 0, .int .u64 0, .int .u64 0, .int .u64 0] 27 := by rw [hu]; exact blk_auto
  have BG : Blk u (w.heap.size + 1) #[.int .i64 111] 33 := by rw [hu]; exact blk_auto
  clear hu
  have lBF := BF.lt; have cBF := BF.cell; have fBF := BF.frozen; have lBG := BG.lt; have cBG := BG.cell; have fBG := BG.frozen; clear BF BG
  have e0 : intV false 0 = .agg #[.bool false, .int .u64 0, .int .u64 0, .int .u64 0, .int .u64 0] := by simp [wn_zero]
  refine ⟨rfl, .tuple #[intV false 0, .int .i64 111], ?_, rfl, hy⟩
  rw [e0]
  simp [results, Tryz.results97, go_sem, cBF, cBG]
end Go.Proofs.YtmopgcbhmkemjaaGreatDoor

namespace Go.Proofs.YtmopgcbhmkemjaaGreatDoor
open Go Go.RowKit
set_option linter.unusedSimpArgs false
set_option linter.unusedVariables false
set_option maxRecDepth 100000

theorem scut_no (s : ByteArray) (hx : Lib.indexByte s.data.toList 47 = -1) (w : World) :
    Calls Tryz.prog 123 #[.string s, .string ⟨#[47]⟩] w fun e w' => e = .returned (.tuple #[.string s, .string ⟨#[]⟩, .bool false]) ∧ Ext w w' := by
  have hc := fun w => Tryz.stringslite_Index_one s 47 w
  rw [hx] at hc
  go_enter Tryz.func123, Tryz.ntmps123
  go_wp2_with (go_at_call 154; refine (hc _).mono ?_; rintro e w' ⟨rfl, rfl⟩)
  exact bodyPost_ret (v := .tuple #[.string s, .string ⟨#[]⟩, .bool false]) (by simp [results, Tryz.results123, go_sem]) rfl ⟨rfl, (by repeat (first | (with_reducible exact Ext.refl _) | (with_reducible assumption) | (with_reducible apply Ext.grow) | (with_reducible apply Ext.alloc) | (with_reducible apply Ext.drew) | ((with_reducible apply Ext.set); (case hb => (first | omega | (simp; omega))))))⟩
theorem cCut_no (s : ByteArray) (hx : Lib.indexByte s.data.toList 47 = -1) (w : World) :
    Calls Tryz.prog 95 #[.string s, .string ⟨#[47]⟩] w fun e w' => e = .returned (.tuple #[.string s, .string ⟨#[]⟩, .bool false]) ∧ Ext w w' := by
  have hc := scut_no s hx
  go_enter Tryz.func95, Tryz.ntmps95
  go_wp2_with (go_at_call 123; refine (hc _).mono ?_; rintro e w' ⟨rfl, d, rfl⟩)
  exact bodyPost_ret (v := .tuple #[.string s, .string ⟨#[]⟩, .bool false]) (by simp [results, Tryz.results95, go_sem]) rfl ⟨rfl, (by repeat (first | (with_reducible exact Ext.refl _) | (with_reducible assumption) | (with_reducible apply Ext.grow) | (with_reducible apply Ext.alloc) | (with_reducible apply Ext.drew) | ((with_reducible apply Ext.set); (case hb => (first | omega | (simp; omega))))))⟩
end Go.Proofs.YtmopgcbhmkemjaaGreatDoor

namespace Go.Proofs.YtmopgcbhmkemjaaGreatDoor
open Go Go.RowKit Go.Shelf
set_option linter.unusedSimpArgs false
set_option linter.unusedVariables false
set_option maxRecDepth 100000
attribute [local go_sem] Oper.semAt_some

def nils (pre : List Unit) : List (Fin 2) := pre.map fun _ => 0
theorem nils_snoc (pre : List Unit) (x : Unit) : nils (pre ++ [x]) = nils pre ++ [0] := by simp [nils]
set_option maxHeartbeats 8000000 in
theorem rParse_one (n : Nat) (hn : 3 ≤ n) (s a b : ByteArray) (hcut : ∀ w, Calls Tryz.prog 95 #[.string s, .string ⟨#[47]⟩] w fun e w' => e = .returned (.tuple #[.string a, .string b, .bool false]) ∧ Ext w w')
    (sa : Bool) (ma : Nat) (ha : ma < B4)
    (ca : ∀ w, Calls Tryz.prog 97 #[.string a] w fun e w' => e = .returned (.tuple #[intV sa ma, .int .i64 0]) ∧ Ext w w')
    (rv : Value) (re : Int) (hres : (okR sa ma false 1 = true ∧ rv = ratV sa ma false 1 ∧ re = 0) ∨ (okR sa ma false 1 = false ∧ rv = qZ ∧ re = 120)) (w : World) :
    CallsIn Fence.wide n Tryz.prog 62 #[.string s] w fun e w' => e = .returned (.tuple #[rv, .int .i64 re]) ∧ Below w.heap.size w w' := by
  refine callsIn_of_wp_marks Tryz.func62 rfl trivial ?_ rfl
  simp only [Tryz.ntmps62, List.size_toArray, List.length_cons, List.length_nil, Nat.reduceAdd, Nat.reduceSub, Array.replicate_succ, Array.replicate_zero, List.push_toArray, List.append_toArray, List.nil_append, List.cons_append]
  gi_wp2_with (first
    | (refine ⟨trivial, (fun _ => by omega), ?_⟩; gi_at_call 93; refine (callsIn_wide.2 (one_any _)).mono ?_; rintro e w' ⟨rfl, d, rfl⟩)
    | (refine ⟨trivial, (fun _ => by omega), ?_⟩; gi_at_call 96; refine (parts_in (n - 1) _ _).mono ?_; rintro e w' ⟨rfl, rfl⟩))
  refine wpIn_rebase fun v hv => ?_
  have hx : Ext w v := by rw [hv]; exact ext_auto
  have B2 : Blk v w.heap.size zR 29 := by rw [hv]; exact blk_auto
  have B3 : Blk v (w.heap.size + 1) #[.int .i64 0] 33 := by rw [hv]; exact blk_auto
  have hl : w.heap.size + 1 < w.heap.size + 1 + 1 + d.obs.size := by omega
  have BL : Blk v (w.heap.size + 1 + 1 + d.obs.size) (two sa ma 1 (nils [])) 146 := by rw [hv]; apply Blk.alloc; apply Blk.alloc; exact Blk.new _ _ _ (by simp)
  have BV : Blk v (w.heap.size + 1 + 1 + d.obs.size + 1) #[.bool false] 4 := by rw [hv]; apply Blk.alloc; exact Blk.new _ _ _ (by simp)
  have BS : Blk v (w.heap.size + 1 + 1 + d.obs.size + 1 + 1) #[.string s] 9 := by rw [hv]; exact Blk.new _ _ _ (by simp)
  clear hv
  generalize w.heap.size + 1 + 1 + d.obs.size = b4 at *
  have hst := parts_stops_one (n - 1) (by omega) (b4 + 1 + 1) w.heap.size s a b hcut v (BS.cell 0) BS.lt
  have hB0 : Below w.heap.size w v := hx.below
  refine wpIn_rangeFunc_ownG rfl (by omega) (gf := 124) (lb := #[.pointer (some ⟨b4 + 1 + 1, 0, none⟩)]) rfl trivial (enters_of Tryz.func124 (by kernel_rfl) rfl)
    hst belowK_t (belowK_b (by have := BS.lt; omega)) (Below.refl _ _) (fun _ => rfl)
    (fun pre W => (Blk W b4 (two sa ma 1 (nils pre)) 146 ∧ Blk W (b4 + 1) #[.bool false] 4 ∧ Blk W w.heap.size zR 29 ∧ Blk W (w.heap.size + 1) #[.int .i64 0] 33) ∧ Below w.heap.size w W)
    (fun c pre W => False)
    (OwnFrom.and (OwnFrom.and ((own_blk _ _ _).from _) (OwnFrom.and ((own_blk _ (fun _ => _) _).from _) (OwnFrom.and ((own_blk _ (fun _ => _) _).from _) ((own_blk _ (fun _ => _) _).from _)))) (ownFrom_below (Nat.le_refl _) (by have := BS.lt; omega)))
    (fun c => fun s W W' row hs => hs.elim)
    ⟨⟨BL, BV, B2, B3⟩, hB0⟩
    (fun x => { tmps := #[.string s, undef, .pointer (some ⟨w.heap.size, 0, none⟩), .pointer (some ⟨w.heap.size + 1, 0, none⟩), .pointer (some ⟨b4, 0, none⟩), .pointer (some ⟨b4 + 1, 0, none⟩), .int .i64 0, .string a, undef, .agg #[.bool false, .int .u64 0, .int .u64 0, .int .u64 0, .int .u64 0], intV false 1, .agg #[.bool false, .int .u64 0, .int .u64 0, .int .u64 0, .int .u64 0, .bool false, q64 (wn 1 0), q64 (wn 1 1), q64 (wn 1 2), q64 (wn 1 3)], .string s, .func (.func 124) #[] #[.pointer (some ⟨b4 + 1 + 1, 0, none⟩)], .int .i64 0, .string a, undef, undef, undef, undef, undef, undef, undef, undef, undef, undef, undef, undef, undef, undef, undef, undef, undef, undef, undef, undef, undef, undef, undef, undef, undef, undef, undef, undef, undef, undef, undef, undef, undef, undef, undef, undef, undef, undef, undef, undef, undef, undef, undef], defers := [] }) ?assign ?body ?done ?stop
  case assign =>
    intro l x W K hK
    gi_wp2
    exact hK
  case stop =>
    rintro D c pre W hD _ h _
    exact h.elim
  case body =>
    rintro l pre x W ⟨⟨BL, BV, B2, B3⟩, hB⟩ _
    obtain ⟨c0, c1, c2, c3, c4, d0, d1, d2, d3, d4, t1, t2, t3⟩ := two_lit sa ma 1 (nils pre)
    rw [t1] at BL
    have lBL := BL.lt; have cBL := BL.cell; have fBL := BL.frozen; have lBV := BV.lt; have cBV := BV.cell; have fBV := BV.frozen; have lB2 := B2.lt; have cB2 := B2.cell; have fB2 := B2.frozen; have lB3 := B3.lt; have cB3 := B3.cell; have fB3 := B3.frozen
    · gi_wp2_with (refine ⟨trivial, (fun _ => by omega), ?_⟩; gi_at_call 97; refine (CallsIn.inRound l (callsIn_wide.2 (ca _))).mono ?_; rintro e w' ⟨rfl, hx⟩; have BL' := BL.ext hx; have BV' := BV.ext hx; have lBL' := BL'.lt; have cBL' := BL'.cell; have fBL' := BL'.frozen; have lBV' := BV'.lt; have cBV' := BV'.cell; have fBV' := BV'.frozen)
      refine ⟨trivial, ?_⟩
      gi_wp2
      have lS := BS.lt
      have l4 : b4 < v.heap.size := by omega
      have l5 : b4 + 1 < v.heap.size := by omega
      have g4 : w.heap.size ≤ b4 := by omega
      have g5 : w.heap.size ≤ b4 + 1 := by omega
      have hbW : Below w.heap.size W w' := hx.below.mono hB.size
      have B2' := B2.ext hx
      have B3' := B3.ext hx
      refine ⟨keepsCell (keepsCell (keepsCell (keepsCell (keepsCell (keepsCell (keeps_ext hx) l4) l4) l4) l4) l4) l5, belowCell (belowCell (belowCell (belowCell (belowCell (belowCell (hbW) g4) g4) g4) g4) g4) g5, ⟨?_, ?_, ?_, ?_⟩, belowCell (belowCell (belowCell (belowCell (belowCell (belowCell (hB.trans hbW) g4) g4) g4) g4) g4) g5⟩
      · rw [nils_snoc, t2]; exact ((((((BL'.setSame (o := 0)).setSame (o := 1)).setSame (o := 2)).setSame (o := 3)).setSame (o := 4)).setOther (by omega))
      · exact ((((((BV'.setOther (by omega)).setOther (by omega)).setOther (by omega)).setOther (by omega)).setOther (by omega)).setSame (o := 0))
      · exact ((((((B2'.setOther (by omega)).setOther (by omega)).setOther (by omega)).setOther (by omega)).setOther (by omega)).setOther (by omega))
      · exact ((((((B3'.setOther (by omega)).setOther (by omega)).setOther (by omega)).setOther (by omega)).setOther (by omega)).setOther (by omega))
  case done =>
    rintro D ys W hD rfl ⟨⟨BL, BV, B2, B3⟩, hB⟩ hK
    have e2 : two sa ma 1 (nils [()]) = #[.bool sa, q64 (wn ma 0), q64 (wn ma 1), q64 (wn ma 2), q64 (wn ma 3), .bool false, q64 (wn 1 0), q64 (wn 1 1), q64 (wn 1 2), q64 (wn 1 3)] := by simp [two, nils]
    rw [e2] at BL
    have lBL := BL.lt; have cBL := BL.cell; have fBL := BL.frozen; have lBV := BV.lt; have cBV := BV.cell; have fBV := BV.frozen; have lB2 := B2.lt; have cB2 := B2.cell; have fB2 := B2.frozen; have lB3 := B3.lt; have cB3 := B3.cell; have fB3 := B3.frozen
    rcases hres with ⟨hok, rfl, rfl⟩ | ⟨hok, rfl, rfl⟩
    · have ck := rcheck_yes sa ma false 1 ha (by decide) hok
      gi_wp2_with (refine ⟨trivial, (fun _ => by omega), ?_⟩; gi_at_call 40; refine (callsIn_wide.2 (ck _)).mono ?_; rintro e w3 ⟨rfl, d3, rfl⟩)
      refine bpM_rebase fun u hu => ?_
      have lS := BS.lt
      have hKD : KeepsFrom v.heap.size W u := by
        rw [hu]; repeat (with_reducible first | exact KeepsFrom.refl _ _ | apply keepsGrow | (refine keepsCell ?_ (by omega)))
      have hK' := hKD.same D _ hD hK rfl
      have BF : Blk u w.heap.size #[.bool sa, q64 (wn ma 0), q64 (wn ma 1), q64 (wn ma 2), q64 (wn ma 3), .bool false, q64 (wn 1 0), q64 (wn 1 1), q64 (wn 1 2), q64 (wn 1 3)] 29 := by rw [hu]; exact blk_auto
      have BE : Blk u (w.heap.size + 1) #[.int .i64 0] 33 := by rw [hu]; exact blk_auto
      have BF5 := own_blk (β := Unit) w.heap.size (fun _ => _) _ () u _ (some D) BF (grownBy_putObj' u D (.deferred none)) (fun r e => by cases e; exact ⟨_, hK', rfl⟩)
      have BE5 := own_blk (β := Unit) (w.heap.size + 1) (fun _ => _) _ () u _ (some D) BE (grownBy_putObj' u D (.deferred none)) (fun r e => by cases e; exact ⟨_, hK', rfl⟩)
      have lBF5 := BF5.lt; have cBF5 := BF5.cell; have fBF5 := BF5.frozen; have lBE5 := BE5.lt; have cBE5 := BE5.cell; have fBE5 := BE5.frozen; clear BF5 BE5
      refine ⟨by simp, .inl ⟨_, _, rfl, run_takeDeferred hK', ?_⟩⟩
      have hBu : Below w.heap.size w u := by
        rw [hu]; repeat (with_reducible first | exact hB | (refine belowGrow ?_ (by simp; omega)) | (refine belowCell ?_ (by omega)))
      refine ⟨.tuple #[ratV sa ma false 1, .int .i64 0], ?_, ?_⟩
      · simp [results, Tryz.results62, go_sem, cBF5, cBE5]
      · exact ⟨by simp, hBu.trans (belowK_b (w := w) (Nat.le_refl _) u D _ _ (by omega) hK' rfl rfl)⟩
    · have ck := rcheck_no sa ma false 1 ha (by decide) hok
      gi_wp2_with (refine ⟨trivial, (fun _ => by omega), ?_⟩; gi_at_call 40; refine (callsIn_wide.2 (ck _)).mono ?_; rintro e w3 ⟨rfl, d3, rfl⟩)
      refine bpM_rebase fun u hu => ?_
      have lS := BS.lt
      have hKD : KeepsFrom v.heap.size W u := by
        rw [hu]; repeat (with_reducible first | exact KeepsFrom.refl _ _ | apply keepsGrow | (refine keepsCell ?_ (by omega)))
      have hK' := hKD.same D _ hD hK rfl
      have BF : Blk u w.heap.size zR 29 := by rw [hu]; exact blk_auto
      have BE : Blk u (w.heap.size + 1) #[.int .i64 120] 33 := by rw [hu]; exact blk_auto
      have BF5 := own_blk (β := Unit) w.heap.size (fun _ => _) _ () u _ (some D) BF (grownBy_putObj' u D (.deferred none)) (fun r e => by cases e; exact ⟨_, hK', rfl⟩)
      have BE5 := own_blk (β := Unit) (w.heap.size + 1) (fun _ => _) _ () u _ (some D) BE (grownBy_putObj' u D (.deferred none)) (fun r e => by cases e; exact ⟨_, hK', rfl⟩)
      have lBF5 := BF5.lt; have cBF5 := BF5.cell; have fBF5 := BF5.frozen; have lBE5 := BE5.lt; have cBE5 := BE5.cell; have fBE5 := BE5.frozen; clear BF5 BE5
      refine ⟨by simp, .inl ⟨_, _, rfl, run_takeDeferred hK', ?_⟩⟩
      have hBu : Below w.heap.size w u := by
        rw [hu]; repeat (with_reducible first | exact hB | (refine belowGrow ?_ (by simp; omega)) | (refine belowCell ?_ (by omega)))
      refine ⟨.tuple #[qZ, .int .i64 120], ?_, ?_⟩
      · simp [results, Tryz.results62, go_sem, cBF5, cBE5]
      · exact ⟨by simp, hBu.trans (belowK_b (w := w) (Nat.le_refl _) u D _ _ (by omega) hK' rfl rfl)⟩
end Go.Proofs.YtmopgcbhmkemjaaGreatDoor

namespace Go.Proofs.YtmopgcbhmkemjaaGreatDoor
open Go Go.RowKit Go.Shelf
set_option linter.unusedSimpArgs false
set_option linter.unusedVariables false
set_option maxRecDepth 100000
attribute [local go_sem] Oper.semAt_some undef

set_option maxHeartbeats 8000000 in
theorem rParse_none (n : Nat) (hn : 3 ≤ n) (s : ByteArray) (hcut : ∀ w, Calls Tryz.prog 95 #[.string s, .string ⟨#[47]⟩] w fun e w' => e = .returned (.tuple #[.string s, .string ⟨#[]⟩, .bool false]) ∧ Ext w w')
    (ca : ∀ w, Calls Tryz.prog 97 #[.string s] w fun e w' => e = .returned (.tuple #[intV false 0, .int .i64 111]) ∧ Ext w w') (w : World) :
    CallsIn Fence.wide n Tryz.prog 62 #[.string s] w fun e w' => e = .returned (.tuple #[qZ, .int .i64 120]) ∧ Below w.heap.size w w' := by
  refine callsIn_of_wp_marks Tryz.func62 rfl trivial ?_ rfl
  simp only [Tryz.ntmps62, List.size_toArray, List.length_cons, List.length_nil, Nat.reduceAdd, Nat.reduceSub, Array.replicate_succ, Array.replicate_zero, List.push_toArray, List.append_toArray, List.nil_append, List.cons_append]
  gi_wp2_with (first
    | (refine ⟨trivial, (fun _ => by omega), ?_⟩; gi_at_call 93; refine (callsIn_wide.2 (one_any _)).mono ?_; rintro e w' ⟨rfl, d, rfl⟩)
    | (refine ⟨trivial, (fun _ => by omega), ?_⟩; gi_at_call 96; refine (parts_in (n - 1) _ _).mono ?_; rintro e w' ⟨rfl, rfl⟩))
  refine wpIn_rebase fun v hv => ?_
  have hx : Ext w v := by rw [hv]; exact ext_auto
  have B2 : Blk v w.heap.size zR 29 := by rw [hv]; exact blk_auto
  have B3 : Blk v (w.heap.size + 1) #[.int .i64 0] 33 := by rw [hv]; exact blk_auto
  have hl : w.heap.size + 1 < w.heap.size + 1 + 1 + d.obs.size := by omega
  have BL : Blk v (w.heap.size + 1 + 1 + d.obs.size) (two false 0 1 []) 146 := by rw [hv]; apply Blk.alloc; apply Blk.alloc; exact Blk.new _ _ _ (by simp)
  have BV : Blk v (w.heap.size + 1 + 1 + d.obs.size + 1) #[.bool false] 4 := by rw [hv]; apply Blk.alloc; exact Blk.new _ _ _ (by simp)
  have BS : Blk v (w.heap.size + 1 + 1 + d.obs.size + 1 + 1) #[.string s] 9 := by rw [hv]; exact Blk.new _ _ _ (by simp)
  clear hv
  generalize w.heap.size + 1 + 1 + d.obs.size = b4 at *
  have hst := parts_stops_one (n - 1) (by omega) (b4 + 1 + 1) w.heap.size s s ⟨#[]⟩ hcut v (BS.cell 0) BS.lt
  have hB0 : Below w.heap.size w v := hx.below
  refine wpIn_rangeFunc_ownG rfl (by omega) (gf := 124) (lb := #[.pointer (some ⟨b4 + 1 + 1, 0, none⟩)]) rfl trivial (enters_of Tryz.func124 (by kernel_rfl) rfl)
    hst belowK_t (belowK_b (by have := BS.lt; omega)) (Below.refl _ _) (fun _ => rfl)
    (fun pre W => pre = [] ∧ (Blk W b4 (two false 0 1 []) 146 ∧ Blk W (b4 + 1) #[.bool false] 4 ∧ Blk W w.heap.size zR 29 ∧ Blk W (w.heap.size + 1) #[.int .i64 0] 33) ∧ Below w.heap.size w W)
    (fun c pre W => c = .ret ∧ (Blk W w.heap.size zR 29 ∧ Blk W (w.heap.size + 1) #[.int .i64 120] 33) ∧ Below w.heap.size w W)
    (OwnFrom.and (fun _ _ _ _ h _ _ => h) (OwnFrom.and (OwnFrom.and ((own_blk _ (fun _ => _) _).from _) (OwnFrom.and ((own_blk _ (fun _ => _) _).from _) (OwnFrom.and ((own_blk _ (fun _ => _) _).from _) ((own_blk _ (fun _ => _) _).from _)))) (ownFrom_below (Nat.le_refl _) (by have := BS.lt; omega))))
    (fun c => OwnFrom.and (fun _ _ _ _ h _ _ => h) (OwnFrom.and (OwnFrom.and ((own_blk _ (fun _ => _) _).from _) ((own_blk _ (fun _ => _) _).from _)) (ownFrom_below (Nat.le_refl _) (by have := BS.lt; omega))))
    ⟨rfl, ⟨BL, BV, B2, B3⟩, hB0⟩
    (fun x => { tmps := #[.string s, undef, .pointer (some ⟨w.heap.size, 0, none⟩), .pointer (some ⟨w.heap.size + 1, 0, none⟩), .pointer (some ⟨b4, 0, none⟩), .pointer (some ⟨b4 + 1, 0, none⟩), .int .i64 0, .string s, undef, .agg #[.bool false, .int .u64 0, .int .u64 0, .int .u64 0, .int .u64 0], intV false 1, .agg #[.bool false, .int .u64 0, .int .u64 0, .int .u64 0, .int .u64 0, .bool false, q64 (wn 1 0), q64 (wn 1 1), q64 (wn 1 2), q64 (wn 1 3)], .string s, .func (.func 124) #[] #[.pointer (some ⟨b4 + 1 + 1, 0, none⟩)], .int .i64 0, .string s, undef, undef, undef, undef, undef, undef, undef, undef, undef, undef, undef, undef, undef, undef, undef, undef, undef, undef, undef, undef, undef, undef, undef, undef, undef, undef, undef, undef, undef, undef, undef, undef, undef, undef, undef, undef, undef, undef, undef, undef, undef, undef, undef], defers := [] }) ?assign ?body ?done ?stop
  case assign =>
    intro l x W K hK
    gi_wp2
    exact hK
  case done =>
    rintro D ys W hD rfl ⟨h, _⟩ hK
    cases h
  case body =>
    rintro l pre x W ⟨rfl, ⟨BL, BV, B2, B3⟩, hB⟩ _
    obtain ⟨c0, c1, c2, c3, c4, d0, d1, d2, d3, d4, t1, t2, t3⟩ := two_lit false 0 1 []
    rw [t1] at BL
    have lBL := BL.lt; have cBL := BL.cell; have fBL := BL.frozen; have lBV := BV.lt; have cBV := BV.cell; have fBV := BV.frozen; have lB2 := B2.lt; have cB2 := B2.cell; have fB2 := B2.frozen; have lB3 := B3.lt; have cB3 := B3.cell; have fB3 := B3.frozen
    gi_wp2_with (refine ⟨trivial, (fun _ => by omega), ?_⟩; gi_at_call 97; refine (CallsIn.inRound l (callsIn_wide.2 (ca _))).mono ?_; rintro e w' ⟨rfl, hx⟩; have BL' := BL.ext hx; have BV' := BV.ext hx; have B2' := B2.ext hx; have B3' := B3.ext hx; have lBL' := BL'.lt; have cBL' := BL'.cell; have fBL' := BL'.frozen; have lBV' := BV'.lt; have cBV' := BV'.cell; have fBV' := BV'.frozen; have lB2' := B2'.lt; have cB2' := B2'.cell; have fB2' := B2'.frozen; have lB3' := B3'.lt; have cB3' := B3'.cell; have fB3' := B3'.frozen)
    refine ⟨trivial, ?_⟩
    gi_wp2
    have lS := BS.lt
    have hbW : Below w.heap.size W w' := hx.below.mono hB.size
    refine ⟨?_, rfl, ⟨?_, ?_⟩, ?_⟩
    · repeat (with_reducible first | exact keeps_ext hx | refine keepsCell ?_ (by omega))
    · exact blk_auto
    · exact blk_auto
    · repeat (with_reducible first | exact hB.trans hbW | refine belowCell ?_ (by omega))
  case stop =>
    rintro D c pre W hD _ ⟨rfl, ⟨B2, B3⟩, hB⟩ hK
    gi_wp2
    have lS := BS.lt
    have BF5 := own_blk (β := Unit) w.heap.size (fun _ => _) _ () W _ (some D) B2 (grownBy_putObj' W D (.deferred none)) (fun r e => by cases e; exact ⟨_, hK, rfl⟩)
    have BE5 := own_blk (β := Unit) (w.heap.size + 1) (fun _ => _) _ () W _ (some D) B3 (grownBy_putObj' W D (.deferred none)) (fun r e => by cases e; exact ⟨_, hK, rfl⟩)
    have lBF5 := BF5.lt; have cBF5 := BF5.cell; have fBF5 := BF5.frozen; have lBE5 := BE5.lt; have cBE5 := BE5.cell; have fBE5 := BE5.frozen; clear BF5 BE5
    refine ⟨by simp, .inl ⟨_, _, rfl, run_takeDeferred hK, ?_⟩⟩
    refine ⟨.tuple #[qZ, .int .i64 120], ?_, ?_⟩
    · simp [results, Tryz.results62, go_sem, cBF5, cBE5]
    · exact ⟨by simp, hB.trans (belowK_b (w := w) (Nat.le_refl _) W D _ _ (by omega) hK rfl rfl)⟩
theorem rParse_empty (n : Nat) (hn : 3 ≤ n) (w : World) :
    CallsIn Fence.wide n Tryz.prog 62 #[.string ⟨#[]⟩] w fun e w' => e = .returned (.tuple #[qZ, .int .i64 120]) ∧ Below w.heap.size w w' :=
  rParse_none n hn ⟨#[]⟩ (cCut_no ⟨#[]⟩ rfl) Parse_empty w
end Go.Proofs.YtmopgcbhmkemjaaGreatDoor
