/- The references' fractions: may a Rat be; the greatest whole number below. The points' references: what is too great; Right; From. The points' references: From; the laws' answers and refused. The points' references: Cmp and Mid. A wide struct loaded in a drawn region. PointOrders: the walks. -/
import Derived.Test.YtmopgcbhmkemjaaGreatDoorProg
import Derived.Test.YtmopgcbhmkemjaaGreatDoorQ09
import Derived.Deep.DeepCutAuto
import Derived.Test.YtmopgcbhmkemjaaGreatDoorQ11
import Derived.Test.YtmopgcbhmkemjaaGreatDoorQ07
import Derived.Test.YtmopgcbhmkemjaaGreatDoorQ05
namespace Go.Proofs.YtmopgcbhmkemjaaGreatDoor
open Go Go.RowKit
set_option linter.unusedSimpArgs false
set_option linter.unusedVariables false
set_option maxRecDepth 100000
set_option exponentiation.threshold 3000

theorem sv_abs_lt {s : Bool} {m : Nat} (h : m < B4) : (sv s m).natAbs < B4 := by rw [sv_natAbs]; exact h
theorem gcd_b4 {m k : Nat} (h0 : 0 < k) (h : k < B4) : Nat.gcd m k < B4 := Nat.lt_of_le_of_lt (Nat.gcd_le_right _ h0) h
set_option maxHeartbeats 8000000 in
theorem fRight (r : Rt) (w : World) :
    Calls Tryz.prog 35 #[r.v] w fun e w' => e = .returned (.bool r.ok) ∧ Ext w w' := by
  have RA := fun w => bRight r.s r.m r.hm w
  have RB := fun w => bRight r.t r.k r.hk w
  have FA := fun w => bFrom r.s r.m r.hm w
  have FB := fun w => bFrom r.t r.k r.hk w
  have N1 : ∀ w, Calls Tryz.prog 57 #[.int .i64 1] w (RetB (fun W r => BigV W r 1) w) := fun w => bNum 1 (by decide) (by decide) w
  have SG := fun p w h => bSign (sv r.t r.k) p (small_lt (fit_lt (sv_abs_lt r.hk))) w h
  have CG := fun p q w h1 h2 => bGcd (2 ^ 520) (Nat.le_refl _) (fun x y hx hy h0 => quo_all x y (by simpa using hx) (by simpa using hy) (by omega)) (sv r.s r.m) (sv r.t r.k) p q (fit_lt (sv_abs_lt r.hm)) (fit_lt (sv_abs_lt r.hk)) w h1 h2
  rw [sv_natAbs, sv_natAbs] at CG
  obtain ⟨s, m, t, k, hm, hk⟩ := r
  dsimp only at *
  by_cases b1 : badI s m = true
  · rw [show Rt.ok ⟨s, m, t, k, hm, hk⟩ = false by simp [Rt.ok, okR, b1]]
    rw [b1] at RA
    clear RB FA FB N1 SG CG
    go_enter Tryz.func35, Tryz.ntmps35
    go_wp2_with (go_at_call 70; (with_reducible refine (RA _).mono ?_); rintro e z ⟨rfl, d, rfl⟩)
    exact bodyPost_ret (v := .bool false) (by simp [results, Tryz.results35, go_sem]) rfl ⟨rfl, ext_auto⟩
  · have b1' : badI s m = false := by simpa using b1
    clear b1
    rw [b1'] at RA
    by_cases b2 : badI t k = true
    · rw [show Rt.ok ⟨s, m, t, k, hm, hk⟩ = false by simp [Rt.ok, okR, b2]]
      rw [b2] at RB
      clear FA FB N1 SG CG
      go_enter Tryz.func35, Tryz.ntmps35
      go_wp2_with (go_at_call 70; (first | (with_reducible refine (RA _).mono ?_) | (with_reducible refine (RB _).mono ?_)); rintro e z ⟨rfl, d, rfl⟩)
      exact bodyPost_ret (v := .bool false) (by simp [results, Tryz.results35, go_sem]) rfl ⟨rfl, ext_auto⟩
    · have b2' : badI t k = false := by simpa using b2
      clear b2
      rw [b2'] at RB
      have hg1 : sgn t k = cmpI (sv t k) 0 := by
        rw [sgn_sv]; unfold cmpI
        rcases Int.lt_trichotomy (sv t k) 0 with h | h | h
        · rw [if_pos h, if_pos h]
        · rw [h]; simp
        · rw [if_neg (by omega), if_neg (by omega), if_neg (by omega), if_pos h]
      have hok : Rt.ok ⟨s, m, t, k, hm, hk⟩ = (decide (cmpI (sv t k) 0 > 0) && decide (Nat.gcd m k = 1)) := by
        simp [Rt.ok, okR, b1', b2', hg1]
      rw [hok]
      have HC : 0 < cmpI (sv t k) 0 → ∀ p q w, BigV w p (Nat.gcd m k : Nat) → BigV w q 1 → Calls Tryz.prog 73 #[p, q] w fun e w' => e = .returned (.int .i64 (cmpI (Nat.gcd m k : Nat) 1)) ∧ Ext w w' := fun h p q w h1 h2 => by
        have h0 : 0 < k := by
          rcases Nat.eq_zero_or_pos k with e | e
          · exfalso; subst e; cases t <;> simp [sv, cmpI] at h
          · exact e
        exact bCmp (Nat.gcd m k : Nat) 1 p q (small_lt (fit_lt (by simpa using gcd_b4 h0 hk))) small_one w h1 h2
      have HE := cmpI_one (Nat.gcd m k : Nat)
      have HG : decide (Nat.gcd m k = 1) = (cmpI (Nat.gcd m k : Nat) 1 == 0) := by
        rw [Bool.eq_iff_iff, HE]; simp; omega
      rw [HG]
      clear hok hg1 b1' b2' HE HG
      generalize cmpI (Nat.gcd m k : Nat) 1 = q2 at *
      generalize cmpI (sv t k) 0 = q1 at *
      obtain ⟨ans, hans⟩ : ∃ ans, ans = (decide (q1 > 0) && (q2 == 0)) := ⟨_, rfl⟩
      rw [← hans]
      have HANS := Lib.hid hans
      clear hans
      generalize sv s m = P at *
      generalize sv t k = Q at *
      generalize ((Nat.gcd m k : Nat) : Int) = G at *
      go_enter Tryz.func35, Tryz.ntmps35
      go_wp2_with (go_at_call 70; (first | (with_reducible refine (RA _).mono ?_) | (with_reducible refine (RB _).mono ?_)); rintro e z ⟨rfl, d, rfl⟩)
      refine wp_rebase fun v hv => ?_
      have hx : Ext w v := by rw [hv]; exact ext_auto
      have BA : Blk v w.heap.size (ratsV s m t k) 29 := by rw [hv]; exact blk_auto
      clear hv RA RB
      have lBA := BA.lt; have cBA := BA.cell; have fBA := BA.frozen
      have hwv := hx.size
      (first | refine wp_region_ha' 8 [0, 1, 3, 4] [2, 5] [6, 7] (fun j => if j = 6 then .cells #[.bool false, .slice none 0 0] 42 else .cells #[.bool false, .slice none 0 0] 42) (by kernel_rfl) (by kernel_rfl) ?hA ?_ | refine wp_region_ha 8 [0, 1, 3, 4] [2, 5] [6, 7] (fun j => if j = 6 then .cells #[.bool false, .slice none 0 0] 42 else .cells #[.bool false, .slice none 0 0] 42) (by kernel_rfl) (by kernel_rfl) ?hA ?_); (case hA => (intro j hj a w; simp only [List.mem_cons, List.not_mem_nil, or_false] at hj; obtain rfl | rfl := hj <;> kernel_rfl)); simp only [List.map_cons, List.map_nil, List.getD_cons_succ, List.getD_cons_zero]; (repeat (refine wpHL_l (fun K hK => ?_); go_simp; refine hK _ ?_; clear hK K)); refine wpHL_nil ?_; intro d0; have hx0 : Ext v (grow v d0) := ⟨d0, rfl⟩; generalize grow v d0 = y0 at *; (refine wpU_c (fun t0 ht K hK => ?_); go_simp; have hx0 := hx0.trans ht; refine ⟨_, _, ⟨rfl, rfl⟩, ?_⟩; (with_reducible refine (FA _).mono ?_); rintro e y1 ⟨r1, rfl, hr1, hz1⟩; have hx1 : Ext v y1 := hx0.trans hz1; obtain ⟨s1, a1, n1, c1, rfl, e1, k1⟩ := hr1.opened; refine ⟨_, rfl, hz1, hK _ _ ?_⟩; clear hK K); (refine wpU_c (fun t1 ht K hK => ?_); go_simp; have hx1 := hx1.trans ht; have hr1 := hr1.ext ht; refine ⟨_, _, ⟨rfl, rfl⟩, ?_⟩; (with_reducible refine (FB _).mono ?_); rintro e y2 ⟨r2, rfl, hr2, hz2⟩; have hx2 : Ext v y2 := hx1.trans hz2; have hr1 := hr1.ext hz2; obtain ⟨s2, a2, n2, c2, rfl, e2, k2⟩ := hr2.opened; refine ⟨_, rfl, hz2, hK _ _ ?_⟩; clear hK K); refine wpU_nil (fun y ht b hb => ?_); have hx := hx.trans (hx2.trans ht); have hxv := hx2.trans ht; have hr1 := hr1.ext ht; have hr2 := hr2.ext ht; obtain ⟨hl6, hc6⟩ := hb.at' 6 (by simp); obtain ⟨hl7, hc7⟩ := hb.at' 7 (by simp); have hn6_7 := hb.two 6 (by simp) 7 (by simp) (by decide); simp only [fill, opAt, Array.getD_eq_getD_getElem?, List.getElem?_toArray, List.getElem?_cons_succ, List.getElem?_cons_zero, Option.getD_some, if_true, Nat.reduceEqDiff, if_false] at *; clear hb; generalize b 6 = b6 at *; have B6 : Blk y b6 #[.bool false, .slice none 0 0] 42 := hc6; clear hc6; generalize b 7 = b7 at *; have B7 : Blk y b7 #[.bool false, .slice none 0 0] 42 := hc7; clear hc7; clear b; simp only [List.drop_succ_cons, List.drop_zero]
      clear BA lBA cBA fBA FA FB hx0 hx1 hx2 hz1 hz2 hxv
      have lB6 := B6.lt; have cB6 := B6.cell; have fB6 := B6.frozen; have lB7 := B7.lt; have cB7 := B7.cell; have fB7 := B7.frozen
      go_upto_region 4 with fail
      refine wp_rebase fun v2 hv2 => ?_
      have B6' : Blk v2 b6 #[.bool s1, .slice a1 n1 c1] 42 := by rw [hv2]; exact blk_auto
      have B7' : Blk v2 b7 #[.bool s2, .slice a2 n2 c2] 42 := by rw [hv2]; exact blk_auto
      have B7a : Blk ((y.setCell ⟨b6, 0, none⟩ (.bool s1)).setCell ⟨b6, 1, none⟩ (.slice a1 n1 c1)) b7 #[.bool false, .slice none 0 0] 42 := (B7.setOther (by omega)).setOther (by omega)
      have VP := (((hr1.set (j := 0) (x := .bool s1) B6 (by decide)).set (j := 1) (x := .slice a1 n1 c1) B6.setSame (by decide)).set (j := 0) (x := .bool s2) B7a (by decide)).set (j := 1) (x := .slice a2 n2 c2) B7a.setSame (by decide)
      have VQ := (((hr2.set (j := 0) (x := .bool s1) B6 (by decide)).set (j := 1) (x := .slice a1 n1 c1) B6.setSame (by decide)).set (j := 0) (x := .bool s2) B7a (by decide)).set (j := 1) (x := .slice a2 n2 c2) B7a.setSame (by decide)
      rw [← hv2] at VP VQ
      have hx2 : Ext w v2 := by rw [hv2]; exact ext_auto
      clear hv2 B6 B7 B7a lB6 cB6 fB6 lB7 cB7 fB7 hx hn6_7 k1 k2 e1 e2 hr1 hr2
      have lB6' := B6'.lt; have cB6' := B6'.cell; have fB6' := B6'.frozen; have lB7' := B7'.lt; have cB7' := B7'.cell; have fB7' := B7'.frozen
      by_cases hp : 0 < q1
      · have HC := HC hp
        have hp' : decide (q1 > 0) = true := by simpa using hp
        have e0 : ans = (q2 == 0) := by rw [HANS.out, hp', Bool.true_and]
        subst e0
        clear hp HANS
        go_wp2_with (first
          | (go_at_call 72; (with_reducible refine (SG _ _ VQ).mono ?_); rintro e z ⟨rfl, hz⟩; replace VP := VP.ext hz; replace VQ := VQ.ext hz; replace hx2 := hx2.trans hz; replace B6' := B6'.ext hz; replace B7' := B7'.ext hz; clear lB6' cB6' fB6' lB7' cB7' fB7'; have lB6' := B6'.lt; have cB6' := B6'.cell; have fB6' := B6'.frozen; have lB7' := B7'.lt; have cB7' := B7'.cell; have fB7' := B7'.frozen)
          | (go_at_call 74; (with_reducible refine (CG _ _ _ VP VQ).mono ?_); rintro e z2 ⟨r, rfl, hr, hz2⟩; replace hx2 := hx2.trans hz2)
          | (go_at_call 57; (with_reducible refine (N1 _).mono ?_); rintro e z3 ⟨r', rfl, hr', hz3⟩; replace hx2 := hx2.trans hz3; replace hr := hr.ext hz3)
          | (go_at_call 73; (with_reducible refine (HC _ _ _ hr hr').mono ?_); rintro e z4 ⟨rfl, hz4⟩; replace hx2 := hx2.trans hz4))
        exact bodyPost_ret (v := .bool (q2 == 0)) (by simp [results, Tryz.results35, go_sem]) rfl ⟨rfl, hx2⟩
      · have hp' : decide (q1 > 0) = false := by simpa using hp
        have e0 : ans = false := by rw [HANS.out, hp', Bool.false_and]
        subst e0
        clear hp HC HANS
        go_wp2_with (go_at_call 72; (with_reducible refine (SG _ _ VQ).mono ?_); rintro e z ⟨rfl, hz⟩; replace hx2 := hx2.trans hz)
        exact bodyPost_ret (v := .bool false) (by simp [results, Tryz.results35, go_sem]) rfl ⟨rfl, hx2⟩
end Go.Proofs.YtmopgcbhmkemjaaGreatDoor

namespace Go.Proofs.YtmopgcbhmkemjaaGreatDoor
open Go Go.RowKit
set_option linter.unusedSimpArgs false
set_option linter.unusedVariables false
set_option maxRecDepth 100000
set_option exponentiation.threshold 3000

set_option maxHeartbeats 16000000 in
theorem outP_no1 (x y : Rat) (fx : Fits x) (fy : Fits y) (px : ¬ PFits x) (v : Value) (w : World) (h : PtV w v x y) :
    Calls Tryz.prog 43 #[v] w fun e w' => e = .returned (.tuple #[pZ, .int .i64 110]) ∧ Ext w w' := by
  have hx : Ext w w := Ext.refl w
  have O1 := fun v w h => fOut_fits x v fx w h
  have O2 := fun v w h => fOut_fits y v fy w h
  have F1 := fun v w h => fitsP_any x v w h
  have F2 := fun v w h => fitsP_any y v w h
  rw [decide_eq_false px] at F1
  rw [show qV x = (rt x fx).v from rfl] at O1
  rw [show qV y = (rt y fy).v from rfl] at O2
  generalize rt x fx = X at *
  generalize rt y fy = Y at *
  clear fx fy
  obtain ⟨p1, m1, t1, k1, _, _⟩ := X
  obtain ⟨p2, m2, t2, k2, _, _⟩ := Y
  obtain ⟨s1, a1, n1, c1, s2, a2, n2, c2, s3, a3, n3, c3, s4, a4, n4, c4, rfl, g1, g2, g3, g4⟩ := h
  have V1 : FrQ w (.agg #[.bool s1, .slice a1 n1 c1, .bool s2, .slice a2 n2 c2]) x := ⟨_, _, _, _, _, _, _, _, rfl, g1, g2⟩
  have V2 : FrQ w (.agg #[.bool s3, .slice a3 n3 c3, .bool s4, .slice a4 n4 c4]) y := ⟨_, _, _, _, _, _, _, _, rfl, g3, g4⟩
  clear g1 g2 g3 g4
  go_enter Tryz.func43, Tryz.ntmps43
  go_wp2_with (go_at_call 76; (with_reducible refine (O1 _ _ (V1.ext ext_auto)).mono ?_); rintro e y1 ⟨rfl, hz_⟩; have hzz_ : Ext w y1 := Ext.trans ext_auto hz_; have BA : Blk y1 w.heap.size #[.bool s1, .slice a1 n1 c1, .bool s2, .slice a2 n2 c2, .bool s3, .slice a3 n3 c3, .bool s4, .slice a4 n4 c4] 46 := Blk.ext blk_auto hz_; have BO : Blk y1 (w.heap.size + 1) zPt 31 := Blk.ext blk_auto hz_; replace hx := hx.trans hzz_; clear hz_ hzz_; have lBA := BA.lt; have cBA := BA.cell; have fBA := BA.frozen; have lBO := BO.lt; have cBO := BO.cell; have fBO := BO.frozen)
  go_wp2_with (go_at_call 76; (with_reducible refine (O2 _ _ (V2.ext (hx.trans ext_auto))).mono ?_); rintro e y2 ⟨rfl, hz_⟩; have hzz_ : Ext y1 y2 := Ext.trans ext_auto hz_; have B1 : Blk y2 y1.heap.size (ratsV p1 m1 t1 k1) 29 := Blk.ext blk_auto hz_; replace BA := BA.ext hzz_; clear lBA cBA fBA; replace BO := BO.ext hzz_; clear lBO cBO fBO; replace hx := hx.trans hzz_; clear hz_ hzz_; have lBA := BA.lt; have cBA := BA.cell; have fBA := BA.frozen; have lBO := BO.lt; have cBO := BO.cell; have fBO := BO.frozen; have lB1 := B1.lt; have cB1 := B1.cell; have fB1 := B1.frozen)
  go_wp2_with (first | ((with_reducible apply wpList_store_row info_point); (case hs => exact rfl); (case hv => exact rfl); (case hB => exact blk_auto); (case hy => rfl); (case hc => rfl); (case h1 => rfl)) | (go_at_call 36; (with_reducible refine (F1 _ _ (V1.ext (hx.trans ext_auto))).mono ?_); rintro e y3 ⟨rfl, hz_⟩; have hzz_ : Ext y2 y3 := Ext.trans ext_auto hz_; replace hx := hx.trans hzz_; replace BO := BO.ext hzz_; clear hz_ hzz_ lBO cBO fBO; have lBO := BO.lt; have cBO := BO.cell; have fBO := BO.frozen))
  refine bp_rebase fun u hu => ?_
  have hy : Ext w u := by rw [hu]; exact Ext.setRow hx (by omega)
  have BF : Blk u (w.heap.size + 1) zPt 31 := by rw [hu]; exact BO.setRowSame
  clear hu
  exact bodyPost_ret (v := .tuple #[pZ, .int .i64 110]) (results_pt_tmp Tryz.results43 rfl rfl BF rfl) rfl ⟨rfl, hy⟩
set_option maxHeartbeats 16000000 in
theorem outP_no2 (x y : Rat) (fx : Fits x) (fy : Fits y) (px : PFits x) (py : ¬ PFits y) (v : Value) (w : World) (h : PtV w v x y) :
    Calls Tryz.prog 43 #[v] w fun e w' => e = .returned (.tuple #[pZ, .int .i64 110]) ∧ Ext w w' := by
  have hx : Ext w w := Ext.refl w
  have O1 := fun v w h => fOut_fits x v fx w h
  have O2 := fun v w h => fOut_fits y v fy w h
  have F1 := fun v w h => fitsP_any x v w h
  have F2 := fun v w h => fitsP_any y v w h
  rw [decide_eq_true px] at F1
  rw [decide_eq_false py] at F2
  rw [show qV x = (rt x fx).v from rfl] at O1
  rw [show qV y = (rt y fy).v from rfl] at O2
  generalize rt x fx = X at *
  generalize rt y fy = Y at *
  clear fx fy
  obtain ⟨p1, m1, t1, k1, _, _⟩ := X
  obtain ⟨p2, m2, t2, k2, _, _⟩ := Y
  obtain ⟨s1, a1, n1, c1, s2, a2, n2, c2, s3, a3, n3, c3, s4, a4, n4, c4, rfl, g1, g2, g3, g4⟩ := h
  have V1 : FrQ w (.agg #[.bool s1, .slice a1 n1 c1, .bool s2, .slice a2 n2 c2]) x := ⟨_, _, _, _, _, _, _, _, rfl, g1, g2⟩
  have V2 : FrQ w (.agg #[.bool s3, .slice a3 n3 c3, .bool s4, .slice a4 n4 c4]) y := ⟨_, _, _, _, _, _, _, _, rfl, g3, g4⟩
  clear g1 g2 g3 g4
  go_enter Tryz.func43, Tryz.ntmps43
  go_wp2_with (go_at_call 76; (with_reducible refine (O1 _ _ (V1.ext ext_auto)).mono ?_); rintro e y1 ⟨rfl, hz_⟩; have hzz_ : Ext w y1 := Ext.trans ext_auto hz_; have BA : Blk y1 w.heap.size #[.bool s1, .slice a1 n1 c1, .bool s2, .slice a2 n2 c2, .bool s3, .slice a3 n3 c3, .bool s4, .slice a4 n4 c4] 46 := Blk.ext blk_auto hz_; have BO : Blk y1 (w.heap.size + 1) zPt 31 := Blk.ext blk_auto hz_; replace hx := hx.trans hzz_; clear hz_ hzz_; have lBA := BA.lt; have cBA := BA.cell; have fBA := BA.frozen; have lBO := BO.lt; have cBO := BO.cell; have fBO := BO.frozen)
  go_wp2_with (go_at_call 76; (with_reducible refine (O2 _ _ (V2.ext (hx.trans ext_auto))).mono ?_); rintro e y2 ⟨rfl, hz_⟩; have hzz_ : Ext y1 y2 := Ext.trans ext_auto hz_; have B1 : Blk y2 y1.heap.size (ratsV p1 m1 t1 k1) 29 := Blk.ext blk_auto hz_; replace BA := BA.ext hzz_; clear lBA cBA fBA; replace BO := BO.ext hzz_; clear lBO cBO fBO; replace hx := hx.trans hzz_; clear hz_ hzz_; have lBA := BA.lt; have cBA := BA.cell; have fBA := BA.frozen; have lBO := BO.lt; have cBO := BO.cell; have fBO := BO.frozen; have lB1 := B1.lt; have cB1 := B1.cell; have fB1 := B1.frozen)
  go_wp2_with (go_at_call 36; (with_reducible refine (F1 _ _ (V1.ext (hx.trans ext_auto))).mono ?_); rintro e y3 ⟨rfl, hz_⟩; have hzz_ : Ext y2 y3 := Ext.trans ext_auto hz_; have B2 : Blk y3 y2.heap.size (ratsV p2 m2 t2 k2) 29 := Blk.ext blk_auto hz_; replace BA := BA.ext hzz_; clear lBA cBA fBA; replace BO := BO.ext hzz_; clear lBO cBO fBO; replace B1 := B1.ext hzz_; clear lB1 cB1 fB1; replace hx := hx.trans hzz_; clear hz_ hzz_; have lBA := BA.lt; have cBA := BA.cell; have fBA := BA.frozen; have lBO := BO.lt; have cBO := BO.cell; have fBO := BO.frozen; have lB1 := B1.lt; have cB1 := B1.cell; have fB1 := B1.frozen; have lB2 := B2.lt; have cB2 := B2.cell; have fB2 := B2.frozen)
  go_wp2_with (first | ((with_reducible apply wpList_store_row info_point); (case hs => exact rfl); (case hv => exact rfl); (case hB => exact blk_auto); (case hy => rfl); (case hc => rfl); (case h1 => rfl)) | (go_at_call 36; (with_reducible refine (F2 _ _ (V2.ext (hx.trans ext_auto))).mono ?_); rintro e y4 ⟨rfl, hz_⟩; have hzz_ : Ext y3 y4 := Ext.trans ext_auto hz_; replace hx := hx.trans hzz_; replace BO := BO.ext hzz_; clear hz_ hzz_ lBO cBO fBO; have lBO := BO.lt; have cBO := BO.cell; have fBO := BO.frozen))
  refine bp_rebase fun u hu => ?_
  have hy : Ext w u := by rw [hu]; exact Ext.setRow hx (by omega)
  have BF : Blk u (w.heap.size + 1) zPt 31 := by rw [hu]; exact BO.setRowSame
  clear hu
  exact bodyPost_ret (v := .tuple #[pZ, .int .i64 110]) (results_pt_tmp Tryz.results43 rfl rfl BF rfl) rfl ⟨rfl, hy⟩
set_option maxHeartbeats 8000000 in
theorem rightP_1 (a b : Rt) (ha : a.ok = false) (w : World) : Calls Tryz.prog 11 #[pV a b] w fun e w' => e = .returned (.bool false) ∧ Ext w w' := by
  have hx : Ext w w := Ext.refl w
  have RA := fun w => fRight a w
  rw [ha] at RA
  clear ha
  obtain ⟨s1, m1, t1, k1, _, _⟩ := a
  obtain ⟨s2, m2, t2, k2, _, _⟩ := b
  go_enter Tryz.func11, Tryz.ntmps11
  go_wp2_with (go_at_call 35; (with_reducible refine (RA _).mono ?_); rintro e z ⟨rfl, hz_⟩; have hzz_ : Ext w z := Ext.trans ext_auto hz_)
  exact bodyPost_ret (v := .bool false) (by simp [results, Tryz.results11, go_sem]) rfl ⟨rfl, hzz_⟩
set_option maxHeartbeats 8000000 in
theorem rightP_2 (a b : Rt) (ha : a.ok = true) (hb : b.ok = false) (w : World) : Calls Tryz.prog 11 #[pV a b] w fun e w' => e = .returned (.bool false) ∧ Ext w w' := by
  have hx : Ext w w := Ext.refl w
  have RA := fun w => fRight a w
  rw [ha] at RA
  clear ha
  have RB := fun w => fRight b w
  rw [hb] at RB
  clear hb
  obtain ⟨s1, m1, t1, k1, _, _⟩ := a
  obtain ⟨s2, m2, t2, k2, _, _⟩ := b
  go_enter Tryz.func11, Tryz.ntmps11
  go_wp2_with (go_at_call 35; (with_reducible refine (RA _).mono ?_); rintro e y1 ⟨rfl, hz_⟩; have hzz_ : Ext w y1 := Ext.trans ext_auto hz_; have BA : Blk y1 w.heap.size (ptsV s1 m1 t1 k1 s2 m2 t2 k2) 31 := Blk.ext blk_auto hz_; replace hx := hx.trans hzz_; clear hz_ hzz_; have lBA := BA.lt; have cBA := BA.cell; have fBA := BA.frozen)
  go_wp2_with (go_at_call 35; (with_reducible refine (RB _).mono ?_); rintro e z ⟨rfl, hz_⟩; have hzz_ : Ext y1 z := Ext.trans ext_auto hz_)
  exact bodyPost_ret (v := .bool false) (by simp [results, Tryz.results11, go_sem]) rfl ⟨rfl, hx.trans hzz_⟩
set_option maxHeartbeats 8000000 in
theorem rightP_3 (a b : Rt) (ha : a.ok = true) (hb : b.ok = true) (pa : ¬ PFits a.q) (w : World) : Calls Tryz.prog 11 #[pV a b] w fun e w' => e = .returned (.bool false) ∧ Ext w w' := by
  have hx : Ext w w := Ext.refl w
  have PA := fun v w h => fitsP_any a.q v w h
  rw [decide_eq_false pa] at PA
  clear pa
  have FA := fun w => fFrom_ok a ha w
  have RA := fun w => fRight a w
  rw [ha] at RA
  clear ha
  have RB := fun w => fRight b w
  rw [hb] at RB
  clear hb
  obtain ⟨s1, m1, t1, k1, _, _⟩ := a
  obtain ⟨s2, m2, t2, k2, _, _⟩ := b
  go_enter Tryz.func11, Tryz.ntmps11
  go_wp2_with (go_at_call 35; (with_reducible refine (RA _).mono ?_); rintro e y1 ⟨rfl, hz_⟩; have hzz_ : Ext w y1 := Ext.trans ext_auto hz_; have BA : Blk y1 w.heap.size (ptsV s1 m1 t1 k1 s2 m2 t2 k2) 31 := Blk.ext blk_auto hz_; replace hx := hx.trans hzz_; clear hz_ hzz_; have lBA := BA.lt; have cBA := BA.cell; have fBA := BA.frozen)
  go_wp2_with (go_at_call 35; (with_reducible refine (RB _).mono ?_); rintro e y2 ⟨rfl, hz_⟩; have hzz_ : Ext y1 y2 := Ext.trans ext_auto hz_; replace BA := BA.ext hzz_; clear lBA cBA fBA; replace hx := hx.trans hzz_; clear hz_ hzz_; have lBA := BA.lt; have cBA := BA.cell; have fBA := BA.frozen)
  go_wp2_with (go_at_call 37; (with_reducible refine (FA _).mono ?_); rintro e y3 ⟨r1, rfl, hr1, hz_⟩; have hzz_ : Ext y2 y3 := Ext.trans ext_auto hz_; replace BA := BA.ext hzz_; clear lBA cBA fBA; replace hx := hx.trans hzz_; clear hz_ hzz_; have lBA := BA.lt; have cBA := BA.cell; have fBA := BA.frozen)
  go_wp2_with (go_at_call 36; (with_reducible refine (PA _ _ hr1).mono ?_); rintro e z ⟨rfl, hz_⟩; have hzz_ : Ext y3 z := Ext.trans ext_auto hz_)
  exact bodyPost_ret (v := .bool false) (by simp [results, Tryz.results11, go_sem]) rfl ⟨rfl, hx.trans hzz_⟩
set_option maxHeartbeats 8000000 in
theorem rightP_4 (a b : Rt) (ha : a.ok = true) (hb : b.ok = true) (pa : PFits a.q) (pb : ¬ PFits b.q) (w : World) : Calls Tryz.prog 11 #[pV a b] w fun e w' => e = .returned (.bool false) ∧ Ext w w' := by
  have hx : Ext w w := Ext.refl w
  have PA := fun v w h => fitsP_any a.q v w h
  rw [decide_eq_true pa] at PA
  clear pa
  have PB := fun v w h => fitsP_any b.q v w h
  rw [decide_eq_false pb] at PB
  clear pb
  have FA := fun w => fFrom_ok a ha w
  have RA := fun w => fRight a w
  rw [ha] at RA
  clear ha
  have FB := fun w => fFrom_ok b hb w
  have RB := fun w => fRight b w
  rw [hb] at RB
  clear hb
  obtain ⟨s1, m1, t1, k1, _, _⟩ := a
  obtain ⟨s2, m2, t2, k2, _, _⟩ := b
  go_enter Tryz.func11, Tryz.ntmps11
  go_wp2_with (go_at_call 35; (with_reducible refine (RA _).mono ?_); rintro e y1 ⟨rfl, hz_⟩; have hzz_ : Ext w y1 := Ext.trans ext_auto hz_; have BA : Blk y1 w.heap.size (ptsV s1 m1 t1 k1 s2 m2 t2 k2) 31 := Blk.ext blk_auto hz_; replace hx := hx.trans hzz_; clear hz_ hzz_; have lBA := BA.lt; have cBA := BA.cell; have fBA := BA.frozen)
  go_wp2_with (go_at_call 35; (with_reducible refine (RB _).mono ?_); rintro e y2 ⟨rfl, hz_⟩; have hzz_ : Ext y1 y2 := Ext.trans ext_auto hz_; replace BA := BA.ext hzz_; clear lBA cBA fBA; replace hx := hx.trans hzz_; clear hz_ hzz_; have lBA := BA.lt; have cBA := BA.cell; have fBA := BA.frozen)
  go_wp2_with (go_at_call 37; (with_reducible refine (FA _).mono ?_); rintro e y3 ⟨r1, rfl, hr1, hz_⟩; have hzz_ : Ext y2 y3 := Ext.trans ext_auto hz_; replace BA := BA.ext hzz_; clear lBA cBA fBA; replace hx := hx.trans hzz_; clear hz_ hzz_; have lBA := BA.lt; have cBA := BA.cell; have fBA := BA.frozen)
  go_wp2_with (go_at_call 36; (with_reducible refine (PA _ _ hr1).mono ?_); rintro e y4 ⟨rfl, hz_⟩; have hzz_ : Ext y3 y4 := Ext.trans ext_auto hz_; replace BA := BA.ext hzz_; clear lBA cBA fBA; replace hx := hx.trans hzz_; clear hz_ hzz_; have lBA := BA.lt; have cBA := BA.cell; have fBA := BA.frozen)
  go_wp2_with (go_at_call 37; (with_reducible refine (FB _).mono ?_); rintro e y5 ⟨r2, rfl, hr2, hz_⟩; have hzz_ : Ext y4 y5 := Ext.trans ext_auto hz_; replace BA := BA.ext hzz_; clear lBA cBA fBA; replace hx := hx.trans hzz_; clear hz_ hzz_; have lBA := BA.lt; have cBA := BA.cell; have fBA := BA.frozen)
  go_wp2_with (go_at_call 36; (with_reducible refine (PB _ _ hr2).mono ?_); rintro e z ⟨rfl, hz_⟩; have hzz_ : Ext y5 z := Ext.trans ext_auto hz_)
  exact bodyPost_ret (v := .bool false) (by simp [results, Tryz.results11, go_sem]) rfl ⟨rfl, hx.trans hzz_⟩
set_option maxHeartbeats 8000000 in
theorem rightP_5 (a b : Rt) (ha : a.ok = true) (hb : b.ok = true) (pa : PFits a.q) (pb : PFits b.q) (w : World) : Calls Tryz.prog 11 #[pV a b] w fun e w' => e = .returned (.bool true) ∧ Ext w w' := by
  have hx : Ext w w := Ext.refl w
  have PA := fun v w h => fitsP_any a.q v w h
  rw [decide_eq_true pa] at PA
  clear pa
  have PB := fun v w h => fitsP_any b.q v w h
  rw [decide_eq_true pb] at PB
  clear pb
  have FA := fun w => fFrom_ok a ha w
  have RA := fun w => fRight a w
  rw [ha] at RA
  clear ha
  have FB := fun w => fFrom_ok b hb w
  have RB := fun w => fRight b w
  rw [hb] at RB
  clear hb
  obtain ⟨s1, m1, t1, k1, _, _⟩ := a
  obtain ⟨s2, m2, t2, k2, _, _⟩ := b
  go_enter Tryz.func11, Tryz.ntmps11
  go_wp2_with (go_at_call 35; (with_reducible refine (RA _).mono ?_); rintro e y1 ⟨rfl, hz_⟩; have hzz_ : Ext w y1 := Ext.trans ext_auto hz_; have BA : Blk y1 w.heap.size (ptsV s1 m1 t1 k1 s2 m2 t2 k2) 31 := Blk.ext blk_auto hz_; replace hx := hx.trans hzz_; clear hz_ hzz_; have lBA := BA.lt; have cBA := BA.cell; have fBA := BA.frozen)
  go_wp2_with (go_at_call 35; (with_reducible refine (RB _).mono ?_); rintro e y2 ⟨rfl, hz_⟩; have hzz_ : Ext y1 y2 := Ext.trans ext_auto hz_; replace BA := BA.ext hzz_; clear lBA cBA fBA; replace hx := hx.trans hzz_; clear hz_ hzz_; have lBA := BA.lt; have cBA := BA.cell; have fBA := BA.frozen)
  go_wp2_with (go_at_call 37; (with_reducible refine (FA _).mono ?_); rintro e y3 ⟨r1, rfl, hr1, hz_⟩; have hzz_ : Ext y2 y3 := Ext.trans ext_auto hz_; replace BA := BA.ext hzz_; clear lBA cBA fBA; replace hx := hx.trans hzz_; clear hz_ hzz_; have lBA := BA.lt; have cBA := BA.cell; have fBA := BA.frozen)
  go_wp2_with (go_at_call 36; (with_reducible refine (PA _ _ hr1).mono ?_); rintro e y4 ⟨rfl, hz_⟩; have hzz_ : Ext y3 y4 := Ext.trans ext_auto hz_; replace BA := BA.ext hzz_; clear lBA cBA fBA; replace hx := hx.trans hzz_; clear hz_ hzz_; have lBA := BA.lt; have cBA := BA.cell; have fBA := BA.frozen)
  go_wp2_with (go_at_call 37; (with_reducible refine (FB _).mono ?_); rintro e y5 ⟨r2, rfl, hr2, hz_⟩; have hzz_ : Ext y4 y5 := Ext.trans ext_auto hz_; replace BA := BA.ext hzz_; clear lBA cBA fBA; replace hx := hx.trans hzz_; clear hz_ hzz_; have lBA := BA.lt; have cBA := BA.cell; have fBA := BA.frozen)
  go_wp2_with (go_at_call 36; (with_reducible refine (PB _ _ hr2).mono ?_); rintro e z ⟨rfl, hz_⟩; have hzz_ : Ext y5 z := Ext.trans ext_auto hz_)
  exact bodyPost_ret (v := .bool true) (by simp [results, Tryz.results11, go_sem]) rfl ⟨rfl, hx.trans hzz_⟩
theorem Rt.pf_dec (r : Rt) (h : r.ok = true) : r.pf = decide (PFits r.q) := by
  obtain ⟨p1, p2, _⟩ := r.q_parts h
  have e1 : r.q.num.natAbs = r.m := by rw [p1, sv_natAbs]
  show (decide (r.m < C96) && decide (r.k < B)) = @decide (PFits r.q) (inferInstanceAs (Decidable (r.q.num.natAbs < C96 ∧ r.q.den < B)))
  by_cases h1 : r.m < C96
  · by_cases h2 : r.k < B
    · rw [decide_eq_true h1, decide_eq_true h2]; exact (decide_eq_true (show PFits r.q from ⟨by rw [e1]; exact h1, by rw [p2]; exact h2⟩)).symm
    · rw [decide_eq_true h1, decide_eq_false h2]; exact (decide_eq_false (fun h : PFits r.q => h2 (by rw [← p2]; exact h.2))).symm
  · rw [decide_eq_false h1]; exact (decide_eq_false (fun h : PFits r.q => h1 (by rw [← e1]; exact h.1))).symm
theorem rightP_any (a b : Rt) (w : World) : Calls Tryz.prog 11 #[pV a b] w fun e w' => e = .returned (.bool (a.pok && b.pok)) ∧ Ext w w' := by
  cases ha : a.ok with
  | false => rw [show (a.pok && b.pok) = false by unfold Rt.pok; rw [ha]; rfl]; exact rightP_1 a b ha w
  | true =>
    cases hb : b.ok with
    | false => rw [show (a.pok && b.pok) = false by unfold Rt.pok; rw [hb]; cases a.pf <;> cases a.ok <;> rfl]; exact rightP_2 a b ha hb w
    | true =>
      have e : (a.pok && b.pok) = (decide (PFits a.q) && decide (PFits b.q)) := by
        unfold Rt.pok; rw [ha, hb, Rt.pf_dec a ha, Rt.pf_dec b hb]; rfl
      rw [e]
      by_cases pa : PFits a.q
      · by_cases pb : PFits b.q
        · rw [decide_eq_true pa, decide_eq_true pb]; exact rightP_5 a b ha hb pa pb w
        · rw [decide_eq_true pa, decide_eq_false pb]; exact rightP_4 a b ha hb pa pb w
      · rw [decide_eq_false pa]; exact rightP_3 a b ha hb pa w
end Go.Proofs.YtmopgcbhmkemjaaGreatDoor

namespace Go.Proofs.YtmopgcbhmkemjaaGreatDoor
open Go Go.RowKit
set_option linter.unusedSimpArgs false
set_option linter.unusedVariables false
set_option maxRecDepth 100000
set_option exponentiation.threshold 3000

set_option maxHeartbeats 8000000 in
theorem fromP (a b : Rt) (ha : a.ok = true) (hb : b.ok = true) (w : World) :
    Calls Tryz.prog 13 #[pV a b] w (RetB (fun W r => PtV W r a.q b.q) w) := by
  have N1 := fun w => fFrom_ok a ha w
  have N2 := fun w => fFrom_ok b hb w
  generalize a.q = p at *
  generalize b.q = q at *
  obtain ⟨p1, m1, t1, j1, _, _⟩ := a
  obtain ⟨p2, m2, t2, j2, _, _⟩ := b
  clear ha hb
  go_enter Tryz.func13, Tryz.ntmps13
  go_upto_region 1 with fail
  refine wp_rebase fun v hv => ?_
  have hx : Ext w v := by rw [hv]; exact ext_auto
  have BA : Blk v w.heap.size (ptsV p1 m1 t1 j1 p2 m2 t2 j2) 31 := by rw [hv]; exact blk_auto
  have BO : Blk v (w.heap.size + 1) #[.bool false, .slice none 0 0, .bool false, .slice none 0 0, .bool false, .slice none 0 0, .bool false, .slice none 0 0] 46 := by rw [hv]; exact blk_auto
  clear hv
  have lBA := BA.lt; have cBA := BA.cell; have fBA := BA.frozen; have lBO := BO.lt; have cBO := BO.cell; have fBO := BO.frozen
  (first | refine wp_region_p (by kernel_rfl) ?_ | refine wp_region_p' (by kernel_rfl) ?_); refine wpAny_ph 0 7 [0, 1, 3, 4] [2, 5, 6] [] (fun _ => .cells #[] 0) (by decide) (by kernel_rfl) (clo_first (Nat.le_of_ble_eq_true (by kernel_rfl)) (by kernel_rfl)) (fun j hj => by cases hj) ?_; simp only [List.map_cons, List.map_nil, List.getD_cons_succ, List.getD_cons_zero]; (refine wpG_l rfl (fun K hK => ?_); go_simp; refine hK _ ?_; clear hK K); (refine wpG_l rfl (fun K hK => ?_); go_simp; refine hK _ ?_; clear hK K); (refine wpG_l rfl (fun K hK => ?_); go_simp; refine hK _ ?_; clear hK K); (refine wpG_l rfl (fun K hK => ?_); go_simp; refine hK _ ?_; clear hK K); refine wpG_nil ?_; intro d0; have hx0 : Ext v (grow v d0) := ⟨d0, rfl⟩; generalize grow v d0 = y0 at *; (refine wpX_c rfl (fun t0 ht K hK => ?_); have hx0 := hx0.trans ht; go_simp; refine ⟨_, _, ⟨rfl, rfl⟩, ?_⟩; (with_reducible refine (N1 _).mono ?_); rintro e y1 ⟨r1, rfl, hr1, hz1⟩; have hx1 : Ext v y1 := hx0.trans hz1; obtain ⟨s1, a1, n1, c1, s1', a1', n1', c1', rfl, k1, l1⟩ := hr1.opened; refine ⟨_, rfl, hz1, hK _ _ ?_⟩; clear hK K); (refine wpX_c rfl (fun t1 ht K hK => ?_); have hx1 := hx1.trans ht; have hr1 := hr1.ext ht; go_simp; refine ⟨_, _, ⟨rfl, rfl⟩, ?_⟩; (with_reducible refine (N2 _).mono ?_); rintro e y2 ⟨r2, rfl, hr2, hz2⟩; have hx2 : Ext v y2 := hx1.trans hz2; have hr1 := hr1.ext hz2; obtain ⟨s2, a2, n2, c2, s2', a2', n2', c2', rfl, k2, l2⟩ := hr2.opened; refine ⟨_, rfl, hz2, hK _ _ ?_⟩; clear hK K); (refine wpX_v rfl (fun t2 ht K hK => ?_); have hx2 := hx2.trans ht; have hr1 := hr1.ext ht; have hr2 := hr2.ext ht; go_simp; refine ⟨_, _, ⟨rfl, rfl⟩, Ext.refl _, hK _ _ ?_⟩; clear hK K); refine wpX_nil (fun y ht b hb => ?_); have hxv := hx2.trans ht; have hx := hx.trans hxv; have hr1 := hr1.ext ht; have hr2 := hr2.ext ht; simp only [fill]; clear hb; replace BA := BA.ext hxv; clear lBA cBA fBA; replace BO := BO.ext hxv; clear lBO cBO fBO; clear hxv ht b; obtain ⟨v, rfl⟩ : ∃ v', v' = y := ⟨_, rfl⟩; have lBA := BA.lt; have cBA := BA.cell; have fBA := BA.frozen; have lBO := BO.lt; have cBO := BO.cell; have fBO := BO.frozen; refine wpAny_done (by kernel_rfl) ?_; simp only [List.drop_succ_cons, List.drop_zero, List.drop_nil]
  clear k1 l1 k2 l2
  obtain ⟨_, _, _, _, _, _, _, _, e1, k1, l1⟩ := hr1
  cases e1
  obtain ⟨_, _, _, _, _, _, _, _, e2, k2, l2⟩ := hr2
  cases e2
  go_wp2
  refine bp_rebase fun u hu => ?_
  have hy : Ext w u := by rw [hu]; exact ext_auto
  replace k1 := k1.set8 (x0 := .bool s1) (x1 := .slice a1 n1 c1) (x2 := .bool s1') (x3 := .slice a1' n1' c1') (x4 := .bool s2) (x5 := .slice a2 n2 c2) (x6 := .bool s2') (x7 := .slice a2' n2' c2') BO (by decide)
  replace l1 := l1.set8 (x0 := .bool s1) (x1 := .slice a1 n1 c1) (x2 := .bool s1') (x3 := .slice a1' n1' c1') (x4 := .bool s2) (x5 := .slice a2 n2 c2) (x6 := .bool s2') (x7 := .slice a2' n2' c2') BO (by decide)
  replace k2 := k2.set8 (x0 := .bool s1) (x1 := .slice a1 n1 c1) (x2 := .bool s1') (x3 := .slice a1' n1' c1') (x4 := .bool s2) (x5 := .slice a2 n2 c2) (x6 := .bool s2') (x7 := .slice a2' n2' c2') BO (by decide)
  replace l2 := l2.set8 (x0 := .bool s1) (x1 := .slice a1 n1 c1) (x2 := .bool s1') (x3 := .slice a1' n1' c1') (x4 := .bool s2) (x5 := .slice a2 n2 c2) (x6 := .bool s2') (x7 := .slice a2' n2' c2') BO (by decide)
  rw [← hu] at k1 l1 k2 l2
  have BF : Blk u (w.heap.size + 1) #[.bool s1, .slice a1 n1 c1, .bool s1', .slice a1' n1' c1', .bool s2, .slice a2 n2 c2, .bool s2', .slice a2' n2' c2'] 46 := by rw [hu]; exact BO.set8
  clear hu BO
  have lBF := BF.lt; have cBF := BF.cell; have fBF := BF.frozen; clear BF
  exact bodyPost_ret (v := .agg #[.bool s1, .slice a1 n1 c1, .bool s1', .slice a1' n1' c1', .bool s2, .slice a2 n2 c2, .bool s2', .slice a2' n2' c2']) (by simp [results, Tryz.results13, go_sem, cBF]) rfl ⟨_, rfl, ⟨_, _, _, _, _, _, _, _, _, _, _, _, _, _, _, _, rfl, k1, l1, k2, l2⟩, hy⟩
theorem eqT_pZ : EqT 31 pZ pZ := by rw [pZ_eq]; exact eqT_pt ⟨false, 0, false, 0, by decide, by decide⟩ ⟨false, 0, false, 0, by decide, by decide⟩
set_option maxHeartbeats 8000000 in
theorem answersP (a b : Rt) (z : Int) (x y : Rat) (OUT : ∀ v w, PtV w v x y → Calls Tryz.prog 43 #[v] w fun e w' => e = .returned (.tuple #[pV a b, .int .i64 z]) ∧ Ext w w') (v : Value) (w : World) (h : PtV w v x y) :
    Calls Tryz.prog 19 #[pV a b, .int .i64 z, v] w fun e w' => e = .returned (.bool true) ∧ Ext w w' := by
  have hx : Ext w w := Ext.refl w
  have EQ := eqT_pt a b
  obtain ⟨p1, m1, t1, k1, _, _⟩ := a
  obtain ⟨p2, m2, t2, k2, _, _⟩ := b
  obtain ⟨s1, a1, n1, c1, s2, a2, n2, c2, s3, a3, n3, c3, s4, a4, n4, c4, rfl, g1, g2, g3, g4⟩ := h
  have V : ∀ W, Ext w W → PtV W (.agg #[.bool s1, .slice a1 n1 c1, .bool s2, .slice a2 n2 c2, .bool s3, .slice a3 n3 c3, .bool s4, .slice a4 n4 c4]) x y := fun W hW => PtV.ext ⟨_, _, _, _, _, _, _, _, _, _, _, _, _, _, _, _, rfl, g1, g2, g3, g4⟩ hW
  clear g1 g2 g3 g4
  go_enter Tryz.func19, Tryz.ntmps19
  go_upto_region 1 with fail
  refine wp_rebase fun v0 hv => ?_
  replace hx : Ext w v0 := by rw [hv]; exact ext_auto
  have BA : Blk v0 w.heap.size (ptsV p1 m1 t1 k1 p2 m2 t2 k2) 31 := by rw [hv]; exact blk_auto
  have BW : Blk v0 (w.heap.size + 1) #[.bool s1, .slice a1 n1 c1, .bool s2, .slice a2 n2 c2, .bool s3, .slice a3 n3 c3, .bool s4, .slice a4 n4 c4] 46 := by rw [hv]; exact blk_auto
  clear hv
  have lBA := BA.lt; have cBA := BA.cell; have fBA := BA.frozen; have lBW := BW.lt; have cBW := BW.cell; have fBW := BW.frozen
  go_upto_region 2 with (first | ((with_reducible apply wpList_store_row info_point); (case hs => exact rfl); (case hv => exact rfl); (case hB => exact blk_auto); (case hy => rfl); (case hc => rfl); (case h1 => rfl)) | (go_at_call 43; (with_reducible refine (OUT _ _ (V _ (hx.trans ext_auto))).mono ?_); clear OUT; rintro e y1 ⟨rfl, hz_⟩; have hzz_ : Ext v0 y1 := Ext.trans ext_auto hz_))
  refine wp_rebase fun v hv => ?_
  have hzv : Ext y1 v := by rw [hv]; exact Ext.setRow ext_auto (Nat.le_refl _)
  have BM : Blk v y1.heap.size (ptsV p1 m1 t1 k1 p2 m2 t2 k2) 31 := by rw [hv]; exact Blk.setRowSame (Blk.new _ _ _ rfl)
  clear hv
  replace BA := (BA.ext hzz_).ext hzv
  replace hx := (hx.trans hzz_).trans hzv
  clear hzz_ hzv hz_ V lBA cBA fBA BW lBW cBW fBW
  have lBA := BA.lt; have cBA := BA.cell; have fBA := BA.frozen; have lBM := BM.lt; have cBM := BM.cell; have fBM := BM.frozen
  go_wp2_with (first | ((with_reducible apply wpList_load_row Tryz.isAgg31 Tryz.sizeOf31); (case hw => (simp [go_sem, Region.wanted, yielded]; done)); (case hs => exact rfl); (case hB => exact blk_auto); (case hc => rfl)) | (go_at_call 14; (with_reducible refine (num_p _ _).mono ?_); rintro e w2 ⟨rfl, h2_⟩; subst w2))
  exact bodyPost_ret (v := .bool true) (by simp [results, Tryz.results19, go_sem]) rfl ⟨rfl, hx⟩
set_option maxHeartbeats 8000000 in
theorem refusedP (w : World) :
    Calls Tryz.prog 17 #[pZ, .int .i64 2] w fun e w' => e = .returned (.bool true) ∧ Ext w w' := by
  have EQ := eqT_pZ
  go_enter Tryz.func17, Tryz.ntmps17
  go_upto_region 1 with fail
  refine wp_rebase fun v hv => ?_
  have hx : Ext w v := by rw [hv]; exact ext_auto
  have BA : Blk v w.heap.size zPt 31 := by rw [hv]; exact blk_auto
  clear hv
  have lBA := BA.lt; have cBA := BA.cell; have fBA := BA.frozen
  go_wp2_with (first | ((with_reducible apply wpList_load_row Tryz.isAgg31 Tryz.sizeOf31); (case hw => (simp [go_sem, Region.wanted, yielded]; done)); (case hs => exact rfl); (case hB => exact blk_auto); (case hc => rfl)) | (go_at_call 14; (with_reducible refine (num_p _ _).mono ?_); rintro e w2 ⟨rfl, h2_⟩; subst w2))
  exact bodyPost_ret (v := .bool true) (by simp [results, Tryz.results17, go_sem]) rfl ⟨rfl, hx⟩
end Go.Proofs.YtmopgcbhmkemjaaGreatDoor

namespace Go.Proofs.YtmopgcbhmkemjaaGreatDoor
open Go Go.RowKit
set_option linter.unusedSimpArgs false
set_option linter.unusedVariables false
set_option maxRecDepth 100000
set_option exponentiation.threshold 3000

theorem PtV.join {W : World} {s1 s2 s3 s4 : Bool} {a1 a2 a3 a4 : Option Addr} {n1 n2 n3 n4 c1 c2 c3 c4 : Nat} {x y : Rat} (h1 : FrQ W (.agg #[.bool s1, .slice a1 n1 c1, .bool s2, .slice a2 n2 c2]) x) (h2 : FrQ W (.agg #[.bool s3, .slice a3 n3 c3, .bool s4, .slice a4 n4 c4]) y) :
    PtV W (.agg #[.bool s1, .slice a1 n1 c1, .bool s2, .slice a2 n2 c2, .bool s3, .slice a3 n3 c3, .bool s4, .slice a4 n4 c4]) x y := by
  obtain ⟨_, _, _, _, _, _, _, _, e1, k1, l1⟩ := h1
  cases e1
  obtain ⟨_, _, _, _, _, _, _, _, e2, k2, l2⟩ := h2
  cases e2
  exact ⟨_, _, _, _, _, _, _, _, _, _, _, _, _, _, _, _, rfl, k1, l1, k2, l2⟩
set_option maxHeartbeats 8000000 in
theorem cmpP_1 (x y x' y' : Rat) (d1 d2 : Int) (h0 : d1 ≠ 0) (C1 : ∀ v v' w, FrQ w v x → FrQ w v' x' → Calls Tryz.prog 59 #[v, v'] w fun e w' => e = .returned (.int .i64 d1) ∧ Ext w w')
    (C2 : ∀ v v' w, FrQ w v y → FrQ w v' y' → Calls Tryz.prog 59 #[v, v'] w fun e w' => e = .returned (.int .i64 d2) ∧ Ext w w') (v v' : Value) (w : World) (h : PtV w v x y) (h' : PtV w v' x' y') :
    Calls Tryz.prog 27 #[v, v'] w fun e w' => e = .returned (.int .i64 d1) ∧ Ext w w' := by
  have hx : Ext w w := Ext.refl w
  have e1 : (d1 == 0) = false := by simp [h0]
  obtain ⟨s1, a1, n1, c1, s2, a2, n2, c2, s3, a3, n3, c3, s4, a4, n4, c4, rfl, g1, g2, g3, g4⟩ := h
  have X : ∀ W, Ext w W → FrQ W (.agg #[.bool s1, .slice a1 n1 c1, .bool s2, .slice a2 n2 c2]) x := fun W hW => FrV.ext ⟨_, _, _, _, _, _, _, _, rfl, g1, g2⟩ hW
  have Y : ∀ W, Ext w W → FrQ W (.agg #[.bool s3, .slice a3 n3 c3, .bool s4, .slice a4 n4 c4]) y := fun W hW => FrV.ext ⟨_, _, _, _, _, _, _, _, rfl, g3, g4⟩ hW
  clear g1 g2 g3 g4
  obtain ⟨s5, a5, n5, c5, s6, a6, n6, c6, s7, a7, n7, c7, s8, a8, n8, c8, rfl, g1, g2, g3, g4⟩ := h'
  have X' : ∀ W, Ext w W → FrQ W (.agg #[.bool s5, .slice a5 n5 c5, .bool s6, .slice a6 n6 c6]) x' := fun W hW => FrV.ext ⟨_, _, _, _, _, _, _, _, rfl, g1, g2⟩ hW
  have Y' : ∀ W, Ext w W → FrQ W (.agg #[.bool s7, .slice a7 n7 c7, .bool s8, .slice a8 n8 c8]) y' := fun W hW => FrV.ext ⟨_, _, _, _, _, _, _, _, rfl, g3, g4⟩ hW
  clear g1 g2 g3 g4
  clear h0
  go_enter Tryz.func27, Tryz.ntmps27
  go_wp2_with (go_at_call 59; (with_reducible refine (C1 _ _ _ (X _ (hx.trans ext_auto)) (X' _ (hx.trans ext_auto))).mono ?_); rintro e z1 ⟨rfl, hz_⟩; have hzz_ : Ext w z1 := Ext.trans ext_auto hz_; have BA : Blk z1 w.heap.size #[.bool s1, .slice a1 n1 c1, .bool s2, .slice a2 n2 c2, .bool s3, .slice a3 n3 c3, .bool s4, .slice a4 n4 c4] 46 := Blk.ext blk_auto hz_; have BB : Blk z1 (w.heap.size + 1) #[.bool s5, .slice a5 n5 c5, .bool s6, .slice a6 n6 c6, .bool s7, .slice a7 n7 c7, .bool s8, .slice a8 n8 c8] 46 := Blk.ext blk_auto hz_; replace hx := hx.trans hzz_; clear hz_ hzz_; have lBA := BA.lt; have cBA := BA.cell; have fBA := BA.frozen; have lBB := BB.lt; have cBB := BB.cell; have fBB := BB.frozen)
  go_wp2
  exact bodyPost_ret (v := .int .i64 d1) (by simp [results, Tryz.results27, go_sem]) rfl ⟨rfl, hx⟩
set_option maxHeartbeats 8000000 in
theorem cmpP_2 (x y x' y' : Rat) (d1 d2 : Int) (h0 : d1 = 0) (C1 : ∀ v v' w, FrQ w v x → FrQ w v' x' → Calls Tryz.prog 59 #[v, v'] w fun e w' => e = .returned (.int .i64 d1) ∧ Ext w w')
    (C2 : ∀ v v' w, FrQ w v y → FrQ w v' y' → Calls Tryz.prog 59 #[v, v'] w fun e w' => e = .returned (.int .i64 d2) ∧ Ext w w') (v v' : Value) (w : World) (h : PtV w v x y) (h' : PtV w v' x' y') :
    Calls Tryz.prog 27 #[v, v'] w fun e w' => e = .returned (.int .i64 d2) ∧ Ext w w' := by
  have hx : Ext w w := Ext.refl w
  have e1 : (d1 == 0) = true := by simp [h0]
  obtain ⟨s1, a1, n1, c1, s2, a2, n2, c2, s3, a3, n3, c3, s4, a4, n4, c4, rfl, g1, g2, g3, g4⟩ := h
  have X : ∀ W, Ext w W → FrQ W (.agg #[.bool s1, .slice a1 n1 c1, .bool s2, .slice a2 n2 c2]) x := fun W hW => FrV.ext ⟨_, _, _, _, _, _, _, _, rfl, g1, g2⟩ hW
  have Y : ∀ W, Ext w W → FrQ W (.agg #[.bool s3, .slice a3 n3 c3, .bool s4, .slice a4 n4 c4]) y := fun W hW => FrV.ext ⟨_, _, _, _, _, _, _, _, rfl, g3, g4⟩ hW
  clear g1 g2 g3 g4
  obtain ⟨s5, a5, n5, c5, s6, a6, n6, c6, s7, a7, n7, c7, s8, a8, n8, c8, rfl, g1, g2, g3, g4⟩ := h'
  have X' : ∀ W, Ext w W → FrQ W (.agg #[.bool s5, .slice a5 n5 c5, .bool s6, .slice a6 n6 c6]) x' := fun W hW => FrV.ext ⟨_, _, _, _, _, _, _, _, rfl, g1, g2⟩ hW
  have Y' : ∀ W, Ext w W → FrQ W (.agg #[.bool s7, .slice a7 n7 c7, .bool s8, .slice a8 n8 c8]) y' := fun W hW => FrV.ext ⟨_, _, _, _, _, _, _, _, rfl, g3, g4⟩ hW
  clear g1 g2 g3 g4
  clear h0
  go_enter Tryz.func27, Tryz.ntmps27
  go_wp2_with (go_at_call 59; (with_reducible refine (C1 _ _ _ (X _ (hx.trans ext_auto)) (X' _ (hx.trans ext_auto))).mono ?_); rintro e z1 ⟨rfl, hz_⟩; have hzz_ : Ext w z1 := Ext.trans ext_auto hz_; have BA : Blk z1 w.heap.size #[.bool s1, .slice a1 n1 c1, .bool s2, .slice a2 n2 c2, .bool s3, .slice a3 n3 c3, .bool s4, .slice a4 n4 c4] 46 := Blk.ext blk_auto hz_; have BB : Blk z1 (w.heap.size + 1) #[.bool s5, .slice a5 n5 c5, .bool s6, .slice a6 n6 c6, .bool s7, .slice a7 n7 c7, .bool s8, .slice a8 n8 c8] 46 := Blk.ext blk_auto hz_; replace hx := hx.trans hzz_; clear hz_ hzz_; have lBA := BA.lt; have cBA := BA.cell; have fBA := BA.frozen; have lBB := BB.lt; have cBB := BB.cell; have fBB := BB.frozen)
  go_wp2_with (go_at_call 59; (with_reducible refine (C2 _ _ _ (Y _ (hx.trans ext_auto)) (Y' _ (hx.trans ext_auto))).mono ?_); rintro e z2 ⟨rfl, hz_⟩; have hzz_ : Ext z1 z2 := Ext.trans ext_auto hz_)
  exact bodyPost_ret (v := .int .i64 d2) (by simp [results, Tryz.results27, go_sem]) rfl ⟨rfl, hx.trans hzz_⟩
set_option maxHeartbeats 16000000 in
theorem midRef_walk (p1 q1 p2 q2 u1 u2 r1 r2 : Rat) (A B : Rt) (z : Int) (N2 : ∀ w, Calls Tryz.prog 25 #[.int .i64 2] w (RetB (fun W r => FrQ W r ((2 : Int) : Rat)) w))
    (A1 : ∀ v v' w, FrQ w v p1 → FrQ w v' p2 → Calls Tryz.prog 24 #[v, v'] w (RetB (fun W r => FrQ W r u1) w))
    (A2 : ∀ v v' w, FrQ w v q1 → FrQ w v' q2 → Calls Tryz.prog 24 #[v, v'] w (RetB (fun W r => FrQ W r u2) w))
    (D1 : ∀ v v' w, FrQ w v u1 → FrQ w v' ((2 : Int) : Rat) → Calls Tryz.prog 58 #[v, v'] w (RetB (fun W r => FrQ W r r1) w))
    (D2 : ∀ v v' w, FrQ w v u2 → FrQ w v' ((2 : Int) : Rat) → Calls Tryz.prog 58 #[v, v'] w (RetB (fun W r => FrQ W r r2) w))
    (OUT : ∀ v w, PtV w v r1 r2 → Calls Tryz.prog 43 #[v] w fun e w' => e = .returned (.tuple #[pV A B, .int .i64 z]) ∧ Ext w w')
    (v v' : Value) (w : World) (h : PtV w v p1 q1) (h' : PtV w v' p2 q2) :
    Calls Tryz.prog 26 #[v, v'] w fun e w' => e = .returned (.tuple #[pV A B, .int .i64 z]) ∧ Ext w w' := by
  have hx : Ext w w := Ext.refl w
  generalize ((2 : Int) : Rat) = two at *
  obtain ⟨f1, m1, i1, j1, _, _⟩ := A
  obtain ⟨f2, m2, i2, j2, _, _⟩ := B
  obtain ⟨s1, a1, n1, c1, s2, a2, n2, c2, s3, a3, n3, c3, s4, a4, n4, c4, rfl, g1, g2, g3, g4⟩ := h
  have X : ∀ W, Ext w W → FrQ W (.agg #[.bool s1, .slice a1 n1 c1, .bool s2, .slice a2 n2 c2]) p1 := fun W hW => FrV.ext ⟨_, _, _, _, _, _, _, _, rfl, g1, g2⟩ hW
  have Y : ∀ W, Ext w W → FrQ W (.agg #[.bool s3, .slice a3 n3 c3, .bool s4, .slice a4 n4 c4]) q1 := fun W hW => FrV.ext ⟨_, _, _, _, _, _, _, _, rfl, g3, g4⟩ hW
  clear g1 g2 g3 g4
  obtain ⟨s5, a5, n5, c5, s6, a6, n6, c6, s7, a7, n7, c7, s8, a8, n8, c8, rfl, g1, g2, g3, g4⟩ := h'
  have X' : ∀ W, Ext w W → FrQ W (.agg #[.bool s5, .slice a5 n5 c5, .bool s6, .slice a6 n6 c6]) p2 := fun W hW => FrV.ext ⟨_, _, _, _, _, _, _, _, rfl, g1, g2⟩ hW
  have Y' : ∀ W, Ext w W → FrQ W (.agg #[.bool s7, .slice a7 n7 c7, .bool s8, .slice a8 n8 c8]) q2 := fun W hW => FrV.ext ⟨_, _, _, _, _, _, _, _, rfl, g3, g4⟩ hW
  clear g1 g2 g3 g4
  go_enter Tryz.func26, Tryz.ntmps26
  go_upto_region 2 with (go_at_call 25; (with_reducible refine (N2 _).mono ?_); clear N2; rintro e z1 ⟨tv, rfl, ht, hz_⟩; obtain ⟨s9, a9, n9, c9, s10, a10, n10, c10, rfl, g1, g2⟩ := ht; have hzz_ : Ext w z1 := Ext.trans ext_auto hz_; have BA : Blk z1 w.heap.size #[.bool s1, .slice a1 n1 c1, .bool s2, .slice a2 n2 c2, .bool s3, .slice a3 n3 c3, .bool s4, .slice a4 n4 c4] 46 := Blk.ext blk_auto hz_; have BB : Blk z1 (w.heap.size + 1) #[.bool s5, .slice a5 n5 c5, .bool s6, .slice a6 n6 c6, .bool s7, .slice a7 n7 c7, .bool s8, .slice a8 n8 c8] 46 := Blk.ext blk_auto hz_; have BO : Blk z1 (w.heap.size + 2) zPt 31 := Blk.ext blk_auto hz_)
  refine wp_rebase fun v hv => ?_
  have hzv : Ext z1 v := by rw [hv]; exact ext_auto
  have BT : Blk v z1.heap.size #[.bool s9, .slice a9 n9 c9, .bool s10, .slice a10 n10 c10] 44 := by rw [hv]; exact blk_auto
  have T2 : FrQ v (.agg #[.bool s9, .slice a9 n9 c9, .bool s10, .slice a10 n10 c10]) two := FrV.ext ⟨_, _, _, _, _, _, _, _, rfl, g1, g2⟩ hzv
  clear hv g1 g2
  replace BA := BA.ext hzv; replace BB := BB.ext hzv; replace BO := BO.ext hzv
  replace hx : Ext w v := hzz_.trans hzv
  have X1 := X v hx; have Y1 := Y v hx; have X2 := X' v hx; have Y2 := Y' v hx
  clear hzz_ hz_ hzv X Y X' Y'
  have hws := hx.size
  have lBA := BA.lt; have cBA := BA.cell; have fBA := BA.frozen; have lBB := BB.lt; have cBB := BB.cell; have fBB := BB.frozen; have lBO := BO.lt; have cBO := BO.cell; have fBO := BO.frozen; have lBT := BT.lt; have cBT := BT.cell; have fBT := BT.frozen
  (first | refine wp_region_p (by kernel_rfl) ?_ | refine wp_region_p' (by kernel_rfl) ?_); refine wpAny_ph 0 16 [0, 1, 2, 3, 5, 7, 8, 9, 10, 12] [4, 6, 11, 13, 14, 15] [] (fun _ => .cells #[] 0) (by decide) (by kernel_rfl) (clo_first (Nat.le_of_ble_eq_true (by kernel_rfl)) (by kernel_rfl)) (fun j hj => by cases hj) ?_; simp only [List.map_cons, List.map_nil, List.getD_cons_succ, List.getD_cons_zero]; (refine wpG_l rfl (fun K hK => ?_); go_simp; refine hK _ ?_; clear hK K); (refine wpG_l rfl (fun K hK => ?_); go_simp; refine hK _ ?_; clear hK K); (refine wpG_l rfl (fun K hK => ?_); go_simp; refine hK _ ?_; clear hK K); (refine wpG_l rfl (fun K hK => ?_); go_simp; refine hK _ ?_; clear hK K); (refine wpG_l rfl (fun K hK => ?_); go_simp; refine hK _ ?_; clear hK K); (refine wpG_l rfl (fun K hK => ?_); go_simp; refine hK _ ?_; clear hK K); (refine wpG_l rfl (fun K hK => ?_); go_simp; refine hK _ ?_; clear hK K); (refine wpG_l rfl (fun K hK => ?_); go_simp; refine hK _ ?_; clear hK K); (refine wpG_l rfl (fun K hK => ?_); go_simp; refine hK _ ?_; clear hK K); (refine wpG_l rfl (fun K hK => ?_); go_simp; refine hK _ ?_; clear hK K); refine wpG_nil ?_; intro d0; have hx0 : Ext v (grow v d0) := ⟨d0, rfl⟩; generalize grow v d0 = y0 at *; (refine wpX_c rfl (fun t0 ht K hK => ?_); have hx0 := hx0.trans ht; go_simp; refine ⟨_, _, ⟨rfl, rfl⟩, ?_⟩; (with_reducible refine (A1 _ _ _ (X1.ext hx0) (X2.ext hx0)).mono ?_); rintro e y1 ⟨r1, rfl, hr1, hz1⟩; have hx1 : Ext v y1 := hx0.trans hz1; refine ⟨_, rfl, hz1, hK _ _ ?_⟩; clear hK K); (refine wpX_c rfl (fun t1 ht K hK => ?_); have hx1 := hx1.trans ht; have hr1 := hr1.ext ht; go_simp; refine ⟨_, _, ⟨rfl, rfl⟩, ?_⟩; (with_reducible refine (D1 _ _ _ hr1 (T2.ext hx1)).mono ?_); rintro e y2 ⟨r2, rfl, hr2, hz2⟩; have hx2 : Ext v y2 := hx1.trans hz2; have hr1 := hr1.ext hz2; obtain ⟨s2, a2, n2, c2, s2', a2', n2', c2', rfl, k2, l2⟩ := hr2.opened; refine ⟨_, rfl, hz2, hK _ _ ?_⟩; clear hK K); (refine wpX_c rfl (fun t2 ht K hK => ?_); have hx2 := hx2.trans ht; have hr1 := hr1.ext ht; have hr2 := hr2.ext ht; go_simp; refine ⟨_, _, ⟨rfl, rfl⟩, ?_⟩; (with_reducible refine (A2 _ _ _ (Y1.ext hx2) (Y2.ext hx2)).mono ?_); rintro e y3 ⟨r3, rfl, hr3, hz3⟩; have hx3 : Ext v y3 := hx2.trans hz3; have hr1 := hr1.ext hz3; have hr2 := hr2.ext hz3; refine ⟨_, rfl, hz3, hK _ _ ?_⟩; clear hK K); (refine wpX_c rfl (fun t3 ht K hK => ?_); have hx3 := hx3.trans ht; have hr1 := hr1.ext ht; have hr2 := hr2.ext ht; have hr3 := hr3.ext ht; go_simp; refine ⟨_, _, ⟨rfl, rfl⟩, ?_⟩; (with_reducible refine (D2 _ _ _ hr3 (T2.ext hx3)).mono ?_); rintro e y4 ⟨r4, rfl, hr4, hz4⟩; have hx4 : Ext v y4 := hx3.trans hz4; have hr1 := hr1.ext hz4; have hr2 := hr2.ext hz4; have hr3 := hr3.ext hz4; obtain ⟨s4, a4, n4, c4, s4', a4', n4', c4', rfl, k4, l4⟩ := hr4.opened; refine ⟨_, rfl, hz4, hK _ _ ?_⟩; clear hK K); (refine wpX_v rfl (fun t4 ht K hK => ?_); have hx4 := hx4.trans ht; have hr1 := hr1.ext ht; have hr2 := hr2.ext ht; have hr3 := hr3.ext ht; have hr4 := hr4.ext ht; go_simp; refine ⟨_, _, ⟨rfl, rfl⟩, Ext.refl _, hK _ _ ?_⟩; clear hK K); (refine wpX_c rfl (fun t4 ht K hK => ?_); have hx4 := hx4.trans ht; have hr1 := hr1.ext ht; have hr2 := hr2.ext ht; have hr3 := hr3.ext ht; have hr4 := hr4.ext ht; go_simp; refine ⟨_, _, ⟨rfl, rfl⟩, ?_⟩; (with_reducible refine (OUT _ _ (PtV.join hr2 hr4)).mono ?_); rintro e y5 ⟨rfl, hz5⟩; have hx5 : Ext v y5 := hx4.trans hz5; have hr1 := hr1.ext hz5; have hr2 := hr2.ext hz5; have hr3 := hr3.ext hz5; have hr4 := hr4.ext hz5; refine ⟨_, rfl, hz5, hK _ _ ?_⟩; clear hK K); refine wpX_nil (fun y ht b hb => ?_); have hxv := hx5.trans ht; have hx := hx.trans hxv; have hr1 := hr1.ext ht; have hr2 := hr2.ext ht; have hr3 := hr3.ext ht; have hr4 := hr4.ext ht; simp only [fill]; clear hb; replace BA := BA.ext hxv; clear lBA cBA fBA; replace BB := BB.ext hxv; clear lBB cBB fBB; replace BT := BT.ext hxv; clear lBT cBT fBT; replace BO := BO.ext hxv; clear lBO cBO fBO; replace X1 := X1.ext hxv; replace Y1 := Y1.ext hxv; replace X2 := X2.ext hxv; replace Y2 := Y2.ext hxv; replace T2 := T2.ext hxv; clear hxv ht b; obtain ⟨v, rfl⟩ : ∃ v', v' = y := ⟨_, rfl⟩; have lBA := BA.lt; have cBA := BA.cell; have fBA := BA.frozen; have lBB := BB.lt; have cBB := BB.cell; have fBB := BB.frozen; have lBT := BT.lt; have cBT := BT.cell; have fBT := BT.frozen; have lBO := BO.lt; have cBO := BO.cell; have fBO := BO.frozen; refine wpAny_at ?_; refine wpAny_ph 16 18 [16, 17] [] [] (fun _ => .cells #[] 0) (by decide) (by kernel_rfl) (clo_first (Nat.le_of_ble_eq_true (by kernel_rfl)) (by kernel_rfl)) (fun j hj => by cases hj) ?_; simp only [List.map_cons, List.map_nil, List.getD_cons_succ, List.getD_cons_zero]; (refine wpG_l rfl (fun K hK => ?_); go_simp; refine hK _ ?_; clear hK K); (refine wpG_l rfl (fun K hK => ?_); go_simp; refine hK _ ?_; clear hK K); refine wpG_nil ?_; intro d0; have hx5 : Ext v (grow v d0) := ⟨d0, rfl⟩; have hr1 := hr1.ext hx5; have hr2 := hr2.ext hx5; have hr3 := hr3.ext hx5; have hr4 := hr4.ext hx5; generalize grow v d0 = y5 at *; refine wpX_nil (fun y ht b hb => ?_); have hxv := hx5.trans ht; have hx := hx.trans hxv; have hr1 := hr1.ext ht; have hr2 := hr2.ext ht; have hr3 := hr3.ext ht; have hr4 := hr4.ext ht; simp only [fill]; clear hb; replace BA := BA.ext hxv; clear lBA cBA fBA; replace BB := BB.ext hxv; clear lBB cBB fBB; replace BT := BT.ext hxv; clear lBT cBT fBT; replace BO := BO.ext hxv; clear lBO cBO fBO; replace X1 := X1.ext hxv; replace Y1 := Y1.ext hxv; replace X2 := X2.ext hxv; replace Y2 := Y2.ext hxv; replace T2 := T2.ext hxv; clear hxv ht b; obtain ⟨v, rfl⟩ : ∃ v', v' = y := ⟨_, rfl⟩; have lBA := BA.lt; have cBA := BA.cell; have fBA := BA.frozen; have lBB := BB.lt; have cBB := BB.cell; have fBB := BB.frozen; have lBT := BT.lt; have cBT := BT.cell; have fBT := BT.frozen; have lBO := BO.lt; have cBO := BO.cell; have fBO := BO.frozen; refine wpAny_done (by kernel_rfl) ?_; simp only [List.drop_succ_cons, List.drop_zero, List.drop_nil]
  go_wp2_with (first | ((with_reducible apply wpList_store_row info_point); (case hs => exact rfl); (case hv => exact rfl); (case hB => exact blk_auto); (case hy => rfl); (case hc => rfl); (case h1 => rfl)))
  refine bp_rebase fun u hu => ?_
  have hy : Ext w u := by rw [hu]; exact Ext.setRow hx (by omega)
  have BF : Blk u (w.heap.size + 2) (ptsV f1 m1 i1 j1 f2 m2 i2 j2) 31 := by rw [hu]; exact BO.setRowSame
  clear hu
  exact bodyPost_ret (v := .tuple #[ptV f1 m1 i1 j1 f2 m2 i2 j2, .int .i64 z]) (results_pt_tmp Tryz.results26 rfl rfl BF rfl) rfl ⟨rfl, hy⟩
end Go.Proofs.YtmopgcbhmkemjaaGreatDoor

namespace Go.Proofs.YtmopgcbhmkemjaaGreatDoor
open Go Go.RowKit
set_option linter.unusedSimpArgs false
set_option linter.unusedVariables false
set_option maxRecDepth 100000

theorem ex_load_row {P : Program} {d : Option Tmp} {ty t : TypeId} {pos : String} {af : Array Edge} {gd : Option (Nat × Bool)} {a : Act} {K : Act → Prop} {W : World} {k : Tmp} {b : Nat} {cs : Array Value} {T : TypeId} {n : Nat}
    (hA : ∀ w, (isAgg t).run P w = .ok true w) (hS : ∀ w, (sizeOf t).run P w = .ok n w) (hs : a.eval (.tmp k) = .pointer (some ⟨b, 0, none⟩)) (hB : Blk W b cs T) (hc : cs.size = n) (h : K (a.put d (.agg cs))) :
    ∃ v, (∀ d', (execOp a.eval ({ dst := d, op := .load t (.tmp k), type := ty, pos := pos, after := af, guard := gd } : Oper)).run P (grow W d') = .ok (.value v) (grow W d')) ∧ K (a.put ({ dst := d, op := .load t (.tmp k), type := ty, pos := pos, after := af, guard := gd } : Oper).dst v) := by
  refine ⟨.agg cs, fun d' => ?_, h⟩
  have hL := (hB.ext (W' := grow W d') ⟨d', rfl⟩).loads (P := P)
  rw [hc] at hL
  unfold execOp
  simp only [hs, Instr.loadAt, Instr.sureAddr, loadVar, Sem.run_bind, Sem.run_pure, Result.andThen_ok, hA, hS, hL, if_true]
theorem ex_load_row_x {P : Program} {d : Option Tmp} {ty t : TypeId} {pos : String} {af : Array Edge} {gd : Option (Nat × Bool)} {a : Act} {K : Act → World → Prop} {W : World} {k : Tmp} {b : Nat} {cs : Array Value} {T : TypeId} {n : Nat}
    (hA : ∀ w, (isAgg t).run P w = .ok true w) (hS : ∀ w, (sizeOf t).run P w = .ok n w) (hs : a.eval (.tmp k) = .pointer (some ⟨b, 0, none⟩)) (hB : Blk W b cs T) (hc : cs.size = n) (h : K (a.put d (.agg cs)) W) :
    ∃ v w'', (execOp a.eval ({ dst := d, op := .load t (.tmp k), type := ty, pos := pos, after := af, guard := gd } : Oper)).run P W = .ok (.value v) w'' ∧ Ext W w'' ∧ K (a.put ({ dst := d, op := .load t (.tmp k), type := ty, pos := pos, after := af, guard := gd } : Oper).dst v) w'' := by
  refine ⟨.agg cs, W, ?_, Ext.refl _, h⟩
  have hL := hB.loads (P := P)
  rw [hc] at hL
  unfold execOp
  simp only [hs, Instr.loadAt, Instr.sureAddr, loadVar, Sem.run_bind, Sem.run_pure, Result.andThen_ok, hA, hS, hL, if_true]
end Go.Proofs.YtmopgcbhmkemjaaGreatDoor

namespace Go.Proofs.YtmopgcbhmkemjaaGreatDoor
open Go Go.RowKit
set_option linter.unusedSimpArgs false
set_option linter.unusedVariables false
set_option maxRecDepth 100000
set_option exponentiation.threshold 3000

theorem PtV.fst {W : World} {s1 s2 s3 s4 : Bool} {a1 a2 a3 a4 : Option Addr} {n1 n2 n3 n4 c1 c2 c3 c4 : Nat} {x y : Rat} (h : PtV W (.agg #[.bool s1, .slice a1 n1 c1, .bool s2, .slice a2 n2 c2, .bool s3, .slice a3 n3 c3, .bool s4, .slice a4 n4 c4]) x y) : FrQ W (.agg #[.bool s1, .slice a1 n1 c1, .bool s2, .slice a2 n2 c2]) x := by
  obtain ⟨_, _, _, _, _, _, _, _, _, _, _, _, _, _, _, _, e, g1, g2, _, _⟩ := h
  cases e
  exact ⟨_, _, _, _, _, _, _, _, rfl, g1, g2⟩
theorem PtV.snd {W : World} {s1 s2 s3 s4 : Bool} {a1 a2 a3 a4 : Option Addr} {n1 n2 n3 n4 c1 c2 c3 c4 : Nat} {x y : Rat} (h : PtV W (.agg #[.bool s1, .slice a1 n1 c1, .bool s2, .slice a2 n2 c2, .bool s3, .slice a3 n3 c3, .bool s4, .slice a4 n4 c4]) x y) : FrQ W (.agg #[.bool s3, .slice a3 n3 c3, .bool s4, .slice a4 n4 c4]) y := by
  obtain ⟨_, _, _, _, _, _, _, _, _, _, _, _, _, _, _, _, e, _, _, g3, g4⟩ := h
  cases e
  exact ⟨_, _, _, _, _, _, _, _, rfl, g3, g4⟩
set_option maxHeartbeats 16000000 in
theorem Orders_A (a b c d U1 U2 V1 V2 : Rt) (dx dy cc ce f g : Int) (C : Ans 21 #[pV a b, pV c d] (.tuple #[.int .i64 cc, .int .i64 ce])) (M : AnsT 22 #[pV a b, pV c d] (.tuple #[pV U1 U2, .int .i64 f]))
    (P : AnsT 23 #[pV a b, .int .i64 dx, .int .i64 dy] (.tuple #[pV V1 V2, .int .i64 g]))
    (c0 : cc = 0) (c2 : ce = 2) (RA : ∀ w, Calls Tryz.prog 11 #[pV a b] w fun e w' => e = .returned (.bool false) ∧ Ext w w') (F1 : ∀ w, Calls Tryz.prog 17 #[pV U1 U2, .int .i64 f] w fun e w' => e = .returned (.bool true) ∧ Ext w w') (F2 : ∀ w, Calls Tryz.prog 17 #[pV V1 V2, .int .i64 g] w fun e w' => e = .returned (.bool true) ∧ Ext w w') (w : World) (hT : Tab w) :
    Calls Tryz.prog 4 #[pV a b, pV c d, .int .i64 dx, .int .i64 dy] w fun e w' => e = .returned (.bool true) ∧ Ext w w' := by
  subst c0 c2
  have hx : Ext w w := Ext.refl w
  have EQ := eqT_pt U1 U2
  obtain ⟨sa, ma, ta, ka, _, _⟩ := a
  obtain ⟨sb, mb, tb, kb, _, _⟩ := b
  obtain ⟨sc, mc, tc, kc, _, _⟩ := c
  obtain ⟨sd, md, td, kd, _, _⟩ := d
  obtain ⟨se, me, te, ke, _, _⟩ := U1
  obtain ⟨sf, mf, tf, kf, _, _⟩ := U2
  obtain ⟨sg, mg, tg, kg, _, _⟩ := V1
  obtain ⟨sh, mh, th, kh, _, _⟩ := V2
  go_enter Tryz.func4, Tryz.ntmps4
  go_upto_region 1 with fail
  refine wp_rebase fun v0 hv => ?_
  replace hx : Ext w v0 := by rw [hv]; exact ext_auto
  have BA : Blk v0 w.heap.size (ptsV sa ma ta ka sb mb tb kb) 31 := by rw [hv]; exact blk_auto
  have BB : Blk v0 (w.heap.size + 1) (ptsV sc mc tc kc sd md td kd) 31 := by rw [hv]; exact blk_auto
  clear hv
  have lBA := BA.lt; have cBA := BA.cell; have fBA := BA.frozen; have lBB := BB.lt; have cBB := BB.cell; have fBB := BB.frozen
  
  go_wp2_with (first | (go_at_call 14; (with_reducible refine (num_p _ _).mono ?_); rintro e w2 ⟨rfl, h2_⟩; subst w2) | ((with_reducible apply wpList_load_row Tryz.isAgg31 Tryz.sizeOf31); (case hw => (simp [go_sem, Region.wanted, yielded]; done)); (case hs => exact rfl); (case hB => exact blk_auto); (case hc => rfl)) | (go_at_call 21; (with_reducible refine (C _).mono ?_); rintro e v1 ⟨rfl, hz_⟩; have hzz_ : Ext v0 v1 := Ext.trans ext_auto hz_; replace BA := BA.ext hzz_; clear lBA cBA fBA; replace BB := BB.ext hzz_; clear lBB cBB fBB; replace hx := hx.trans hzz_; clear hz_ hzz_; have lBA := BA.lt; have cBA := BA.cell; have fBA := BA.frozen; have lBB := BB.lt; have cBB := BB.cell; have fBB := BB.frozen))
  go_upto_region 3 with (first | ((with_reducible apply wpList_store_row info_point); (case hs => exact rfl); (case hv => exact rfl); (case hB => exact blk_auto); (case hy => rfl); (case hc => rfl); (case h1 => rfl)) | ((with_reducible apply wpList_load_row Tryz.isAgg31 Tryz.sizeOf31); (case hw => (simp [go_sem, Region.wanted, yielded]; done)); (case hs => exact rfl); (case hB => exact blk_auto); (case hc => rfl)) | (go_at_call 14; (with_reducible refine (num_p _ _).mono ?_); rintro e w2 ⟨rfl, h2_⟩; subst w2) | (go_at_call 22; (with_reducible refine (M _ (hT.ext (hx.trans ext_auto))).mono ?_); rintro e y2 ⟨rfl, hz_⟩; have hzz_ : Ext v1 y2 := Ext.trans ext_auto hz_))
  refine wp_rebase fun v2 hv => ?_
  have hzv : Ext y2 v2 := by rw [hv]; exact Ext.setRow ext_auto (Nat.le_refl _)
  have BM : Blk v2 y2.heap.size (ptsV se me te ke sf mf tf kf) 31 := by rw [hv]; exact Blk.setRowSame (Blk.new _ _ _ rfl)
  clear hv
  replace BA := (BA.ext hzz_).ext hzv
  replace BB := (BB.ext hzz_).ext hzv
  replace hx := (hx.trans hzz_).trans hzv
  clear hzz_ hzv hz_
  clear lBA cBA fBA lBB cBB fBB
  have lBA := BA.lt; have cBA := BA.cell; have fBA := BA.frozen; have lBB := BB.lt; have cBB := BB.cell; have fBB := BB.frozen; have lBM := BM.lt; have cBM := BM.cell; have fBM := BM.frozen
  go_upto_region 4 with (first | ((with_reducible apply wpList_store_row info_point); (case hs => exact rfl); (case hv => exact rfl); (case hB => exact blk_auto); (case hy => rfl); (case hc => rfl); (case h1 => rfl)) | ((with_reducible apply wpList_load_row Tryz.isAgg31 Tryz.sizeOf31); (case hw => (simp [go_sem, Region.wanted, yielded]; done)); (case hs => exact rfl); (case hB => exact blk_auto); (case hc => rfl)) | (go_at_call 14; (with_reducible refine (num_p _ _).mono ?_); rintro e w2 ⟨rfl, h2_⟩; subst w2) | (go_at_call 23; (with_reducible refine (P _ (hT.ext (hx.trans ext_auto))).mono ?_); rintro e y3 ⟨rfl, hz_⟩; have hzz_ : Ext v2 y3 := Ext.trans ext_auto hz_))
  refine wp_rebase fun v3 hv => ?_
  have hzv : Ext y3 v3 := by rw [hv]; exact Ext.setRow ext_auto (Nat.le_refl _)
  have BP : Blk v3 y3.heap.size (ptsV sg mg tg kg sh mh th kh) 31 := by rw [hv]; exact Blk.setRowSame (Blk.new _ _ _ rfl)
  clear hv
  replace BA := (BA.ext hzz_).ext hzv
  replace BB := (BB.ext hzz_).ext hzv
  replace BM := (BM.ext hzz_).ext hzv
  replace hx := (hx.trans hzz_).trans hzv
  clear hzz_ hzv hz_
  clear lBA cBA fBA lBB cBB fBB lBM cBM fBM
  have lBA := BA.lt; have cBA := BA.cell; have fBA := BA.frozen; have lBB := BB.lt; have cBB := BB.cell; have fBB := BB.frozen; have lBM := BM.lt; have cBM := BM.cell; have fBM := BM.frozen; have lBP := BP.lt; have cBP := BP.cell; have fBP := BP.frozen
  clear C M P
  go_wp2_with (first | (go_at_call 14; (with_reducible refine (num_p _ _).mono ?_); rintro e w2 ⟨rfl, h2_⟩; subst w2) | ((with_reducible apply wpList_load_row Tryz.isAgg31 Tryz.sizeOf31); (case hw => (simp [go_sem, Region.wanted, yielded]; done)); (case hs => exact rfl); (case hB => exact blk_auto); (case hc => rfl)) | (go_at_call 11; (with_reducible refine (RA _).mono ?_); rintro e x1 ⟨rfl, hz_⟩; have hzz_ : Ext v3 x1 := Ext.trans ext_auto hz_; replace BM := BM.ext hzz_; clear lBM cBM fBM; replace BP := BP.ext hzz_; clear lBP cBP fBP; replace hx := hx.trans hzz_; clear hz_ hzz_; have lBM := BM.lt; have cBM := BM.cell; have fBM := BM.frozen; have lBP := BP.lt; have cBP := BP.cell; have fBP := BP.frozen))
  go_wp2_with (first | (go_at_call 14; (with_reducible refine (num_p _ _).mono ?_); rintro e w2 ⟨rfl, h2_⟩; subst w2) | ((with_reducible apply wpList_load_row Tryz.isAgg31 Tryz.sizeOf31); (case hw => (simp [go_sem, Region.wanted, yielded]; done)); (case hs => exact rfl); (case hB => exact blk_auto); (case hc => rfl)) | (go_at_call 17; (with_reducible refine (F1 _).mono ?_); rintro e x2 ⟨rfl, hz_⟩; have hzz_ : Ext x1 x2 := Ext.trans ext_auto hz_; replace BP := BP.ext hzz_; clear lBP cBP fBP; replace hx := hx.trans hzz_; clear hz_ hzz_; have lBP := BP.lt; have cBP := BP.cell; have fBP := BP.frozen))
  go_wp2_with (first | (go_at_call 14; (with_reducible refine (num_p _ _).mono ?_); rintro e w2 ⟨rfl, h2_⟩; subst w2) | ((with_reducible apply wpList_load_row Tryz.isAgg31 Tryz.sizeOf31); (case hw => (simp [go_sem, Region.wanted, yielded]; done)); (case hs => exact rfl); (case hB => exact blk_auto); (case hc => rfl)) | (go_at_call 17; (with_reducible refine (F2 _).mono ?_); rintro e x3 ⟨rfl, hz_⟩; have hzz_ : Ext x2 x3 := Ext.trans ext_auto hz_; replace hx := hx.trans hzz_; clear hz_ hzz_))
  go_wp2_with (first | (go_at_call 14; (with_reducible refine (num_p _ _).mono ?_); rintro e w2 ⟨rfl, h2_⟩; subst w2) | (go_at_call 18; (with_reducible refine (worksP_true _ (hT.ext (hx.trans ext_auto))).mono ?_); rintro e y9 ⟨rfl, hz_⟩; have hzz_ : Ext x3 y9 := Ext.trans ext_auto hz_))
  exact bodyPost_ret (v := .bool true) (by simp [results, Tryz.results4, go_sem]) rfl ⟨rfl, hx.trans hzz_⟩
set_option maxHeartbeats 16000000 in
theorem Orders_B (a b c d U1 U2 V1 V2 : Rt) (dx dy cc ce f g : Int) (C : Ans 21 #[pV a b, pV c d] (.tuple #[.int .i64 cc, .int .i64 ce])) (M : AnsT 22 #[pV a b, pV c d] (.tuple #[pV U1 U2, .int .i64 f]))
    (P : AnsT 23 #[pV a b, .int .i64 dx, .int .i64 dy] (.tuple #[pV V1 V2, .int .i64 g]))
    (c0 : cc = 0) (c2 : ce = 2) (xa xb da db ua ub : Rat) (RA : ∀ w, Calls Tryz.prog 11 #[pV a b] w fun e w' => e = .returned (.bool true) ∧ Ext w w') (RB : ∀ w, Calls Tryz.prog 11 #[pV c d] w fun e w' => e = .returned (.bool false) ∧ Ext w w') (F1 : ∀ w, Calls Tryz.prog 17 #[pV U1 U2, .int .i64 f] w fun e w' => e = .returned (.bool true) ∧ Ext w w')
    (FR : ∀ w, Calls Tryz.prog 13 #[pV a b] w (RetB (fun W r => PtV W r xa xb) w)) (N1 : ∀ w, Calls Tryz.prog 25 #[.int .i64 dx] w (RetB (fun W r => FrQ W r da) w))
    (N2 : ∀ w, Calls Tryz.prog 25 #[.int .i64 dy] w (RetB (fun W r => FrQ W r db) w)) (A1 : ∀ v v' w, FrQ w v xa → FrQ w v' da → Calls Tryz.prog 24 #[v, v'] w (RetB (fun W r => FrQ W r ua) w)) (A2 : ∀ v v' w, FrQ w v xb → FrQ w v' db → Calls Tryz.prog 24 #[v, v'] w (RetB (fun W r => FrQ W r ub) w))
    (AN : ∀ v w, PtV w v ua ub → Calls Tryz.prog 19 #[pV V1 V2, .int .i64 g, v] w fun e w' => e = .returned (.bool true) ∧ Ext w w') (w : World) (hT : Tab w) :
    Calls Tryz.prog 4 #[pV a b, pV c d, .int .i64 dx, .int .i64 dy] w fun e w' => e = .returned (.bool true) ∧ Ext w w' := by
  subst c0 c2
  have hx : Ext w w := Ext.refl w
  have EQ := eqT_pt U1 U2
  obtain ⟨sa, ma, ta, ka, _, _⟩ := a
  obtain ⟨sb, mb, tb, kb, _, _⟩ := b
  obtain ⟨sc, mc, tc, kc, _, _⟩ := c
  obtain ⟨sd, md, td, kd, _, _⟩ := d
  obtain ⟨se, me, te, ke, _, _⟩ := U1
  obtain ⟨sf, mf, tf, kf, _, _⟩ := U2
  obtain ⟨sg, mg, tg, kg, _, _⟩ := V1
  obtain ⟨sh, mh, th, kh, _, _⟩ := V2
  go_enter Tryz.func4, Tryz.ntmps4
  go_upto_region 1 with fail
  refine wp_rebase fun v0 hv => ?_
  replace hx : Ext w v0 := by rw [hv]; exact ext_auto
  have BA : Blk v0 w.heap.size (ptsV sa ma ta ka sb mb tb kb) 31 := by rw [hv]; exact blk_auto
  have BB : Blk v0 (w.heap.size + 1) (ptsV sc mc tc kc sd md td kd) 31 := by rw [hv]; exact blk_auto
  clear hv
  have lBA := BA.lt; have cBA := BA.cell; have fBA := BA.frozen; have lBB := BB.lt; have cBB := BB.cell; have fBB := BB.frozen
  
  go_wp2_with (first | (go_at_call 14; (with_reducible refine (num_p _ _).mono ?_); rintro e w2 ⟨rfl, h2_⟩; subst w2) | ((with_reducible apply wpList_load_row Tryz.isAgg31 Tryz.sizeOf31); (case hw => (simp [go_sem, Region.wanted, yielded]; done)); (case hs => exact rfl); (case hB => exact blk_auto); (case hc => rfl)) | (go_at_call 21; (with_reducible refine (C _).mono ?_); rintro e v1 ⟨rfl, hz_⟩; have hzz_ : Ext v0 v1 := Ext.trans ext_auto hz_; replace BA := BA.ext hzz_; clear lBA cBA fBA; replace BB := BB.ext hzz_; clear lBB cBB fBB; replace hx := hx.trans hzz_; clear hz_ hzz_; have lBA := BA.lt; have cBA := BA.cell; have fBA := BA.frozen; have lBB := BB.lt; have cBB := BB.cell; have fBB := BB.frozen))
  go_upto_region 3 with (first | ((with_reducible apply wpList_store_row info_point); (case hs => exact rfl); (case hv => exact rfl); (case hB => exact blk_auto); (case hy => rfl); (case hc => rfl); (case h1 => rfl)) | ((with_reducible apply wpList_load_row Tryz.isAgg31 Tryz.sizeOf31); (case hw => (simp [go_sem, Region.wanted, yielded]; done)); (case hs => exact rfl); (case hB => exact blk_auto); (case hc => rfl)) | (go_at_call 14; (with_reducible refine (num_p _ _).mono ?_); rintro e w2 ⟨rfl, h2_⟩; subst w2) | (go_at_call 22; (with_reducible refine (M _ (hT.ext (hx.trans ext_auto))).mono ?_); rintro e y2 ⟨rfl, hz_⟩; have hzz_ : Ext v1 y2 := Ext.trans ext_auto hz_))
  refine wp_rebase fun v2 hv => ?_
  have hzv : Ext y2 v2 := by rw [hv]; exact Ext.setRow ext_auto (Nat.le_refl _)
  have BM : Blk v2 y2.heap.size (ptsV se me te ke sf mf tf kf) 31 := by rw [hv]; exact Blk.setRowSame (Blk.new _ _ _ rfl)
  clear hv
  replace BA := (BA.ext hzz_).ext hzv
  replace BB := (BB.ext hzz_).ext hzv
  replace hx := (hx.trans hzz_).trans hzv
  clear hzz_ hzv hz_
  clear lBA cBA fBA lBB cBB fBB
  have lBA := BA.lt; have cBA := BA.cell; have fBA := BA.frozen; have lBB := BB.lt; have cBB := BB.cell; have fBB := BB.frozen; have lBM := BM.lt; have cBM := BM.cell; have fBM := BM.frozen
  go_upto_region 4 with (first | ((with_reducible apply wpList_store_row info_point); (case hs => exact rfl); (case hv => exact rfl); (case hB => exact blk_auto); (case hy => rfl); (case hc => rfl); (case h1 => rfl)) | ((with_reducible apply wpList_load_row Tryz.isAgg31 Tryz.sizeOf31); (case hw => (simp [go_sem, Region.wanted, yielded]; done)); (case hs => exact rfl); (case hB => exact blk_auto); (case hc => rfl)) | (go_at_call 14; (with_reducible refine (num_p _ _).mono ?_); rintro e w2 ⟨rfl, h2_⟩; subst w2) | (go_at_call 23; (with_reducible refine (P _ (hT.ext (hx.trans ext_auto))).mono ?_); rintro e y3 ⟨rfl, hz_⟩; have hzz_ : Ext v2 y3 := Ext.trans ext_auto hz_))
  refine wp_rebase fun v3 hv => ?_
  have hzv : Ext y3 v3 := by rw [hv]; exact Ext.setRow ext_auto (Nat.le_refl _)
  have BP : Blk v3 y3.heap.size (ptsV sg mg tg kg sh mh th kh) 31 := by rw [hv]; exact Blk.setRowSame (Blk.new _ _ _ rfl)
  clear hv
  replace BA := (BA.ext hzz_).ext hzv
  replace BB := (BB.ext hzz_).ext hzv
  replace BM := (BM.ext hzz_).ext hzv
  replace hx := (hx.trans hzz_).trans hzv
  clear hzz_ hzv hz_
  clear lBA cBA fBA lBB cBB fBB lBM cBM fBM
  have lBA := BA.lt; have cBA := BA.cell; have fBA := BA.frozen; have lBB := BB.lt; have cBB := BB.cell; have fBB := BB.frozen; have lBM := BM.lt; have cBM := BM.cell; have fBM := BM.frozen; have lBP := BP.lt; have cBP := BP.cell; have fBP := BP.frozen
  clear C M P
  go_wp2_with (first | (go_at_call 14; (with_reducible refine (num_p _ _).mono ?_); rintro e w2 ⟨rfl, h2_⟩; subst w2) | ((with_reducible apply wpList_load_row Tryz.isAgg31 Tryz.sizeOf31); (case hw => (simp [go_sem, Region.wanted, yielded]; done)); (case hs => exact rfl); (case hB => exact blk_auto); (case hc => rfl)) | (go_at_call 11; (with_reducible refine (RA _).mono ?_); rintro e x1 ⟨rfl, hz_⟩; have hzz_ : Ext v3 x1 := Ext.trans ext_auto hz_; replace BA := BA.ext hzz_; clear lBA cBA fBA; replace BB := BB.ext hzz_; clear lBB cBB fBB; replace BM := BM.ext hzz_; clear lBM cBM fBM; replace BP := BP.ext hzz_; clear lBP cBP fBP; replace hx := hx.trans hzz_; clear hz_ hzz_; have lBA := BA.lt; have cBA := BA.cell; have fBA := BA.frozen; have lBB := BB.lt; have cBB := BB.cell; have fBB := BB.frozen; have lBM := BM.lt; have cBM := BM.cell; have fBM := BM.frozen; have lBP := BP.lt; have cBP := BP.cell; have fBP := BP.frozen))
  go_upto_region 7 with (first | ((with_reducible apply wpList_load_row Tryz.isAgg31 Tryz.sizeOf31); (case hw => (simp [go_sem, Region.wanted, yielded]; done)); (case hs => exact rfl); (case hB => exact blk_auto); (case hc => rfl)) | (go_at_call 13; (with_reducible refine (FR _).mono ?_); rintro e z1 ⟨tv, rfl, ht, hz_⟩; obtain ⟨s21, a21, n21, c21, s22, a22, n22, c22, s23, a23, n23, c23, s24, a24, n24, c24, rfl, g1, g2, g3, g4⟩ := ht; have hzz_ : Ext x1 z1 := Ext.trans ext_auto hz_; replace BA := BA.ext hzz_; replace BB := BB.ext hzz_; replace BM := BM.ext hzz_; replace BP := BP.ext hzz_))
  refine wp_rebase fun v hv => ?_
  have hzv : Ext z1 v := by rw [hv]; exact ext_auto
  have BX : Blk v z1.heap.size #[.bool s21, .slice a21 n21 c21, .bool s22, .slice a22 n22 c22, .bool s23, .slice a23 n23 c23, .bool s24, .slice a24 n24 c24] 46 := by rw [hv]; exact blk_auto
  clear hv
  replace BA := BA.ext hzv
  replace BB := BB.ext hzv
  replace BM := BM.ext hzv
  replace BP := BP.ext hzv
  have PX : PtV v (.agg #[.bool s21, .slice a21 n21 c21, .bool s22, .slice a22 n22 c22, .bool s23, .slice a23 n23 c23, .bool s24, .slice a24 n24 c24]) xa xb := PtV.ext ⟨_, _, _, _, _, _, _, _, _, _, _, _, _, _, _, _, rfl, g1, g2, g3, g4⟩ hzv
  replace hx := (hx.trans hzz_).trans hzv
  clear hzz_ hzv hz_ g1 g2 g3 g4
  clear lBA cBA fBA lBB cBB fBB lBM cBM fBM lBP cBP fBP
  have lBA := BA.lt; have cBA := BA.cell; have fBA := BA.frozen; have lBB := BB.lt; have cBB := BB.cell; have fBB := BB.frozen; have lBM := BM.lt; have cBM := BM.cell; have fBM := BM.frozen; have lBP := BP.lt; have cBP := BP.cell; have fBP := BP.frozen; have lBX := BX.lt; have cBX := BX.cell; have fBX := BX.frozen
  have X1 : FrQ v (.agg #[.bool s21, .slice a21 n21 c21, .bool s22, .slice a22 n22 c22]) xa := PX.fst
  have Y1 : FrQ v (.agg #[.bool s23, .slice a23 n23 c23, .bool s24, .slice a24 n24 c24]) xb := PX.snd
  have hws := hx.size
  clear RA FR
  (first | refine wp_region_p (by kernel_rfl) ?_ | refine wp_region_p' (by kernel_rfl) ?_); refine wpAny_ph 0 15 [0, 1, 2, 3, 4, 7, 8, 9] [5, 6, 10, 11, 12, 13, 14] [] (fun _ => .cells #[] 0) (by decide) (by kernel_rfl) (clo_first (Nat.le_of_ble_eq_true (by kernel_rfl)) (by kernel_rfl)) (fun j hj => by cases hj) ?_; simp only [List.map_cons, List.map_nil, List.getD_cons_succ, List.getD_cons_zero]; (refine wpG_l rfl (fun K hK => ?_); (with_reducible apply ex_load_row Tryz.isAgg31 Tryz.sizeOf31); (case hs => exact rfl); (case hB => exact blk_auto); (case hc => rfl); refine hK _ ?_; clear hK K); (refine wpG_l rfl (fun K hK => ?_); go_simp; refine hK _ ?_; clear hK K); (refine wpG_l rfl (fun K hK => ?_); go_simp; refine hK _ ?_; clear hK K); (refine wpG_l rfl (fun K hK => ?_); go_simp; refine hK _ ?_; clear hK K); (refine wpG_l rfl (fun K hK => ?_); go_simp; refine hK _ ?_; clear hK K); (refine wpG_l rfl (fun K hK => ?_); go_simp; refine hK _ ?_; clear hK K); (refine wpG_l rfl (fun K hK => ?_); go_simp; refine hK _ ?_; clear hK K); (refine wpG_l rfl (fun K hK => ?_); go_simp; refine hK _ ?_; clear hK K); refine wpG_nil ?_; intro d0; have hx0 : Ext v (grow v d0) := ⟨d0, rfl⟩; generalize grow v d0 = y0 at *; (refine wpX_c rfl (fun t0 ht K hK => ?_); have hx0 := hx0.trans ht; go_simp; refine ⟨_, _, ⟨rfl, rfl⟩, ?_⟩; (with_reducible refine (N1 _).mono ?_); rintro e y1 ⟨r1, rfl, hr1, hz1⟩; have hx1 : Ext v y1 := hx0.trans hz1; refine ⟨_, rfl, hz1, hK _ _ ?_⟩; clear hK K); (refine wpX_c rfl (fun t1 ht K hK => ?_); have hx1 := hx1.trans ht; have hr1 := hr1.ext ht; go_simp; refine ⟨_, _, ⟨rfl, rfl⟩, ?_⟩; (with_reducible refine (A1 _ _ _ (X1.ext hx1) hr1).mono ?_); rintro e y2 ⟨r2, rfl, hr2, hz2⟩; have hx2 : Ext v y2 := hx1.trans hz2; have hr1 := hr1.ext hz2; obtain ⟨s2, a2, n2, c2, s2', a2', n2', c2', rfl, k2, l2⟩ := hr2.opened; refine ⟨_, rfl, hz2, hK _ _ ?_⟩; clear hK K); (refine wpX_c rfl (fun t2 ht K hK => ?_); have hx2 := hx2.trans ht; have hr1 := hr1.ext ht; have hr2 := hr2.ext ht; go_simp; refine ⟨_, _, ⟨rfl, rfl⟩, ?_⟩; (with_reducible refine (N2 _).mono ?_); rintro e y3 ⟨r3, rfl, hr3, hz3⟩; have hx3 : Ext v y3 := hx2.trans hz3; have hr1 := hr1.ext hz3; have hr2 := hr2.ext hz3; refine ⟨_, rfl, hz3, hK _ _ ?_⟩; clear hK K); (refine wpX_c rfl (fun t3 ht K hK => ?_); have hx3 := hx3.trans ht; have hr1 := hr1.ext ht; have hr2 := hr2.ext ht; have hr3 := hr3.ext ht; go_simp; refine ⟨_, _, ⟨rfl, rfl⟩, ?_⟩; (with_reducible refine (A2 _ _ _ (Y1.ext hx3) hr3).mono ?_); rintro e y4 ⟨r4, rfl, hr4, hz4⟩; have hx4 : Ext v y4 := hx3.trans hz4; have hr1 := hr1.ext hz4; have hr2 := hr2.ext hz4; have hr3 := hr3.ext hz4; obtain ⟨s4, a4, n4, c4, s4', a4', n4', c4', rfl, k4, l4⟩ := hr4.opened; refine ⟨_, rfl, hz4, hK _ _ ?_⟩; clear hK K); (refine wpX_v rfl (fun t4 ht K hK => ?_); have hx4 := hx4.trans ht; have hr1 := hr1.ext ht; have hr2 := hr2.ext ht; have hr3 := hr3.ext ht; have hr4 := hr4.ext ht; go_simp; refine ⟨_, _, ⟨rfl, rfl⟩, Ext.refl _, hK _ _ ?_⟩; clear hK K); (refine wpX_c rfl (fun t4 ht K hK => ?_); have hx4 := hx4.trans ht; have hr1 := hr1.ext ht; have hr2 := hr2.ext ht; have hr3 := hr3.ext ht; have hr4 := hr4.ext ht; go_simp; refine ⟨_, _, ⟨rfl, rfl⟩, ?_⟩; (with_reducible refine (AN _ _ (PtV.join hr2 hr4)).mono ?_); rintro e y5 ⟨rfl, hz5⟩; have hx5 : Ext v y5 := hx4.trans hz5; have hr1 := hr1.ext hz5; have hr2 := hr2.ext hz5; have hr3 := hr3.ext hz5; have hr4 := hr4.ext hz5; refine ⟨_, rfl, hz5, hK _ _ ?_⟩; clear hK K); (refine wpX_v rfl (fun t5 ht K hK => ?_); have hx5 := hx5.trans ht; have hr1 := hr1.ext ht; have hr2 := hr2.ext ht; have hr3 := hr3.ext ht; have hr4 := hr4.ext ht; go_simp; refine ⟨_, _, ⟨rfl, rfl⟩, Ext.refl _, hK _ _ ?_⟩; clear hK K); refine wpX_nil (fun y ht b hb => ?_); have hxv := hx5.trans ht; have hx := hx.trans hxv; have hr1 := hr1.ext ht; have hr2 := hr2.ext ht; have hr3 := hr3.ext ht; have hr4 := hr4.ext ht; simp only [fill]; clear hb; replace BB := BB.ext hxv; clear lBB cBB fBB; replace BM := BM.ext hxv; clear lBM cBM fBM; replace BP := BP.ext hxv; clear lBP cBP fBP; replace BX := BX.ext hxv; clear lBX cBX fBX; replace PX := PX.ext hxv; replace X1 := X1.ext hxv; replace Y1 := Y1.ext hxv; clear hxv ht b; obtain ⟨v, rfl⟩ : ∃ v', v' = y := ⟨_, rfl⟩; have lBB := BB.lt; have cBB := BB.cell; have fBB := BB.frozen; have lBM := BM.lt; have cBM := BM.cell; have fBM := BM.frozen; have lBP := BP.lt; have cBP := BP.cell; have fBP := BP.frozen; have lBX := BX.lt; have cBX := BX.cell; have fBX := BX.frozen; refine wpAny_done (by kernel_rfl) ?_; simp only [List.drop_succ_cons, List.drop_zero, List.drop_nil]
  clear N1 N2 A1 A2 AN X1 Y1
  go_wp2_with (first | (go_at_call 14; (with_reducible refine (num_p _ _).mono ?_); rintro e w2 ⟨rfl, h2_⟩; subst w2) | ((with_reducible apply wpList_load_row Tryz.isAgg31 Tryz.sizeOf31); (case hw => (simp [go_sem, Region.wanted, yielded]; done)); (case hs => exact rfl); (case hB => exact blk_auto); (case hc => rfl)) | (go_at_call 11; (with_reducible refine (RB _).mono ?_); rintro e x2 ⟨rfl, hz_⟩; have hzz_ : Ext v x2 := Ext.trans ext_auto hz_; replace BM := BM.ext hzz_; clear lBM cBM fBM; replace hx := hx.trans hzz_; clear hz_ hzz_; have lBM := BM.lt; have cBM := BM.cell; have fBM := BM.frozen))
  go_wp2_with (first | (go_at_call 14; (with_reducible refine (num_p _ _).mono ?_); rintro e w2 ⟨rfl, h2_⟩; subst w2) | ((with_reducible apply wpList_load_row Tryz.isAgg31 Tryz.sizeOf31); (case hw => (simp [go_sem, Region.wanted, yielded]; done)); (case hs => exact rfl); (case hB => exact blk_auto); (case hc => rfl)) | (go_at_call 17; (with_reducible refine (F1 _).mono ?_); rintro e x3 ⟨rfl, hz_⟩; have hzz_ : Ext x2 x3 := Ext.trans ext_auto hz_; replace hx := hx.trans hzz_; clear hz_ hzz_))
  go_wp2_with (first | (go_at_call 14; (with_reducible refine (num_p _ _).mono ?_); rintro e w2 ⟨rfl, h2_⟩; subst w2) | (go_at_call 18; (with_reducible refine (worksP_true _ (hT.ext (hx.trans ext_auto))).mono ?_); rintro e y9 ⟨rfl, hz_⟩; have hzz_ : Ext x3 y9 := Ext.trans ext_auto hz_))
  exact bodyPost_ret (v := .bool true) (by simp [results, Tryz.results4, go_sem]) rfl ⟨rfl, hx.trans hzz_⟩
set_option maxHeartbeats 16000000 in
theorem Orders_C (a b c d U1 U2 V1 V2 : Rt) (dx dy cc ce f g : Int) (C : Ans 21 #[pV a b, pV c d] (.tuple #[.int .i64 cc, .int .i64 ce])) (M : AnsT 22 #[pV a b, pV c d] (.tuple #[pV U1 U2, .int .i64 f]))
    (P : AnsT 23 #[pV a b, .int .i64 dx, .int .i64 dy] (.tuple #[pV V1 V2, .int .i64 g]))
    (c2 : ce = 0) (xa xb da db ua ub ya yb : Rat) (RA : ∀ w, Calls Tryz.prog 11 #[pV a b] w fun e w' => e = .returned (.bool true) ∧ Ext w w') (RB : ∀ w, Calls Tryz.prog 11 #[pV c d] w fun e w' => e = .returned (.bool true) ∧ Ext w w')
    (FR : ∀ w, Calls Tryz.prog 13 #[pV a b] w (RetB (fun W r => PtV W r xa xb) w)) (N1 : ∀ w, Calls Tryz.prog 25 #[.int .i64 dx] w (RetB (fun W r => FrQ W r da) w))
    (N2 : ∀ w, Calls Tryz.prog 25 #[.int .i64 dy] w (RetB (fun W r => FrQ W r db) w)) (A1 : ∀ v v' w, FrQ w v xa → FrQ w v' da → Calls Tryz.prog 24 #[v, v'] w (RetB (fun W r => FrQ W r ua) w)) (A2 : ∀ v v' w, FrQ w v xb → FrQ w v' db → Calls Tryz.prog 24 #[v, v'] w (RetB (fun W r => FrQ W r ub) w))
    (AN : ∀ v w, PtV w v ua ub → Calls Tryz.prog 19 #[pV V1 V2, .int .i64 g, v] w fun e w' => e = .returned (.bool true) ∧ Ext w w')
    (FS : ∀ w, Calls Tryz.prog 13 #[pV c d] w (RetB (fun W r => PtV W r ya yb) w)) (MR : ∀ v v' w, PtV w v xa xb → PtV w v' ya yb → Calls Tryz.prog 26 #[v, v'] w fun e w' => e = .returned (.tuple #[pV U1 U2, .int .i64 f]) ∧ Ext w w')
    (CR : ∀ v v' w, PtV w v xa xb → PtV w v' ya yb → Calls Tryz.prog 27 #[v, v'] w fun e w' => e = .returned (.int .i64 cc) ∧ Ext w w') (w : World) (hT : Tab w) :
    Calls Tryz.prog 4 #[pV a b, pV c d, .int .i64 dx, .int .i64 dy] w fun e w' => e = .returned (.bool true) ∧ Ext w w' := by
  subst c2
  have hx : Ext w w := Ext.refl w
  have EQ := eqT_pt U1 U2
  obtain ⟨sa, ma, ta, ka, _, _⟩ := a
  obtain ⟨sb, mb, tb, kb, _, _⟩ := b
  obtain ⟨sc, mc, tc, kc, _, _⟩ := c
  obtain ⟨sd, md, td, kd, _, _⟩ := d
  obtain ⟨se, me, te, ke, _, _⟩ := U1
  obtain ⟨sf, mf, tf, kf, _, _⟩ := U2
  obtain ⟨sg, mg, tg, kg, _, _⟩ := V1
  obtain ⟨sh, mh, th, kh, _, _⟩ := V2
  go_enter Tryz.func4, Tryz.ntmps4
  go_upto_region 1 with fail
  refine wp_rebase fun v0 hv => ?_
  replace hx : Ext w v0 := by rw [hv]; exact ext_auto
  have BA : Blk v0 w.heap.size (ptsV sa ma ta ka sb mb tb kb) 31 := by rw [hv]; exact blk_auto
  have BB : Blk v0 (w.heap.size + 1) (ptsV sc mc tc kc sd md td kd) 31 := by rw [hv]; exact blk_auto
  clear hv
  have lBA := BA.lt; have cBA := BA.cell; have fBA := BA.frozen; have lBB := BB.lt; have cBB := BB.cell; have fBB := BB.frozen
  
  go_wp2_with (first | (go_at_call 14; (with_reducible refine (num_p _ _).mono ?_); rintro e w2 ⟨rfl, h2_⟩; subst w2) | ((with_reducible apply wpList_load_row Tryz.isAgg31 Tryz.sizeOf31); (case hw => (simp [go_sem, Region.wanted, yielded]; done)); (case hs => exact rfl); (case hB => exact blk_auto); (case hc => rfl)) | (go_at_call 21; (with_reducible refine (C _).mono ?_); rintro e v1 ⟨rfl, hz_⟩; have hzz_ : Ext v0 v1 := Ext.trans ext_auto hz_; replace BA := BA.ext hzz_; clear lBA cBA fBA; replace BB := BB.ext hzz_; clear lBB cBB fBB; replace hx := hx.trans hzz_; clear hz_ hzz_; have lBA := BA.lt; have cBA := BA.cell; have fBA := BA.frozen; have lBB := BB.lt; have cBB := BB.cell; have fBB := BB.frozen))
  go_upto_region 3 with (first | ((with_reducible apply wpList_store_row info_point); (case hs => exact rfl); (case hv => exact rfl); (case hB => exact blk_auto); (case hy => rfl); (case hc => rfl); (case h1 => rfl)) | ((with_reducible apply wpList_load_row Tryz.isAgg31 Tryz.sizeOf31); (case hw => (simp [go_sem, Region.wanted, yielded]; done)); (case hs => exact rfl); (case hB => exact blk_auto); (case hc => rfl)) | (go_at_call 14; (with_reducible refine (num_p _ _).mono ?_); rintro e w2 ⟨rfl, h2_⟩; subst w2) | (go_at_call 22; (with_reducible refine (M _ (hT.ext (hx.trans ext_auto))).mono ?_); rintro e y2 ⟨rfl, hz_⟩; have hzz_ : Ext v1 y2 := Ext.trans ext_auto hz_))
  refine wp_rebase fun v2 hv => ?_
  have hzv : Ext y2 v2 := by rw [hv]; exact Ext.setRow ext_auto (Nat.le_refl _)
  have BM : Blk v2 y2.heap.size (ptsV se me te ke sf mf tf kf) 31 := by rw [hv]; exact Blk.setRowSame (Blk.new _ _ _ rfl)
  clear hv
  replace BA := (BA.ext hzz_).ext hzv
  replace BB := (BB.ext hzz_).ext hzv
  replace hx := (hx.trans hzz_).trans hzv
  clear hzz_ hzv hz_
  clear lBA cBA fBA lBB cBB fBB
  have lBA := BA.lt; have cBA := BA.cell; have fBA := BA.frozen; have lBB := BB.lt; have cBB := BB.cell; have fBB := BB.frozen; have lBM := BM.lt; have cBM := BM.cell; have fBM := BM.frozen
  go_upto_region 4 with (first | ((with_reducible apply wpList_store_row info_point); (case hs => exact rfl); (case hv => exact rfl); (case hB => exact blk_auto); (case hy => rfl); (case hc => rfl); (case h1 => rfl)) | ((with_reducible apply wpList_load_row Tryz.isAgg31 Tryz.sizeOf31); (case hw => (simp [go_sem, Region.wanted, yielded]; done)); (case hs => exact rfl); (case hB => exact blk_auto); (case hc => rfl)) | (go_at_call 14; (with_reducible refine (num_p _ _).mono ?_); rintro e w2 ⟨rfl, h2_⟩; subst w2) | (go_at_call 23; (with_reducible refine (P _ (hT.ext (hx.trans ext_auto))).mono ?_); rintro e y3 ⟨rfl, hz_⟩; have hzz_ : Ext v2 y3 := Ext.trans ext_auto hz_))
  refine wp_rebase fun v3 hv => ?_
  have hzv : Ext y3 v3 := by rw [hv]; exact Ext.setRow ext_auto (Nat.le_refl _)
  have BP : Blk v3 y3.heap.size (ptsV sg mg tg kg sh mh th kh) 31 := by rw [hv]; exact Blk.setRowSame (Blk.new _ _ _ rfl)
  clear hv
  replace BA := (BA.ext hzz_).ext hzv
  replace BB := (BB.ext hzz_).ext hzv
  replace BM := (BM.ext hzz_).ext hzv
  replace hx := (hx.trans hzz_).trans hzv
  clear hzz_ hzv hz_
  clear lBA cBA fBA lBB cBB fBB lBM cBM fBM
  have lBA := BA.lt; have cBA := BA.cell; have fBA := BA.frozen; have lBB := BB.lt; have cBB := BB.cell; have fBB := BB.frozen; have lBM := BM.lt; have cBM := BM.cell; have fBM := BM.frozen; have lBP := BP.lt; have cBP := BP.cell; have fBP := BP.frozen
  clear C M P
  go_wp2_with (first | (go_at_call 14; (with_reducible refine (num_p _ _).mono ?_); rintro e w2 ⟨rfl, h2_⟩; subst w2) | ((with_reducible apply wpList_load_row Tryz.isAgg31 Tryz.sizeOf31); (case hw => (simp [go_sem, Region.wanted, yielded]; done)); (case hs => exact rfl); (case hB => exact blk_auto); (case hc => rfl)) | (go_at_call 11; (with_reducible refine (RA _).mono ?_); rintro e x1 ⟨rfl, hz_⟩; have hzz_ : Ext v3 x1 := Ext.trans ext_auto hz_; replace BA := BA.ext hzz_; clear lBA cBA fBA; replace BB := BB.ext hzz_; clear lBB cBB fBB; replace BM := BM.ext hzz_; clear lBM cBM fBM; replace BP := BP.ext hzz_; clear lBP cBP fBP; replace hx := hx.trans hzz_; clear hz_ hzz_; have lBA := BA.lt; have cBA := BA.cell; have fBA := BA.frozen; have lBB := BB.lt; have cBB := BB.cell; have fBB := BB.frozen; have lBM := BM.lt; have cBM := BM.cell; have fBM := BM.frozen; have lBP := BP.lt; have cBP := BP.cell; have fBP := BP.frozen))
  go_upto_region 7 with (first | ((with_reducible apply wpList_load_row Tryz.isAgg31 Tryz.sizeOf31); (case hw => (simp [go_sem, Region.wanted, yielded]; done)); (case hs => exact rfl); (case hB => exact blk_auto); (case hc => rfl)) | (go_at_call 13; (with_reducible refine (FR _).mono ?_); rintro e z1 ⟨tv, rfl, ht, hz_⟩; obtain ⟨s21, a21, n21, c21, s22, a22, n22, c22, s23, a23, n23, c23, s24, a24, n24, c24, rfl, g1, g2, g3, g4⟩ := ht; have hzz_ : Ext x1 z1 := Ext.trans ext_auto hz_; replace BA := BA.ext hzz_; replace BB := BB.ext hzz_; replace BM := BM.ext hzz_; replace BP := BP.ext hzz_))
  refine wp_rebase fun v hv => ?_
  have hzv : Ext z1 v := by rw [hv]; exact ext_auto
  have BX : Blk v z1.heap.size #[.bool s21, .slice a21 n21 c21, .bool s22, .slice a22 n22 c22, .bool s23, .slice a23 n23 c23, .bool s24, .slice a24 n24 c24] 46 := by rw [hv]; exact blk_auto
  clear hv
  replace BA := BA.ext hzv
  replace BB := BB.ext hzv
  replace BM := BM.ext hzv
  replace BP := BP.ext hzv
  have PX : PtV v (.agg #[.bool s21, .slice a21 n21 c21, .bool s22, .slice a22 n22 c22, .bool s23, .slice a23 n23 c23, .bool s24, .slice a24 n24 c24]) xa xb := PtV.ext ⟨_, _, _, _, _, _, _, _, _, _, _, _, _, _, _, _, rfl, g1, g2, g3, g4⟩ hzv
  replace hx := (hx.trans hzz_).trans hzv
  clear hzz_ hzv hz_ g1 g2 g3 g4
  clear lBA cBA fBA lBB cBB fBB lBM cBM fBM lBP cBP fBP
  have lBA := BA.lt; have cBA := BA.cell; have fBA := BA.frozen; have lBB := BB.lt; have cBB := BB.cell; have fBB := BB.frozen; have lBM := BM.lt; have cBM := BM.cell; have fBM := BM.frozen; have lBP := BP.lt; have cBP := BP.cell; have fBP := BP.frozen; have lBX := BX.lt; have cBX := BX.cell; have fBX := BX.frozen
  have X1 : FrQ v (.agg #[.bool s21, .slice a21 n21 c21, .bool s22, .slice a22 n22 c22]) xa := PX.fst
  have Y1 : FrQ v (.agg #[.bool s23, .slice a23 n23 c23, .bool s24, .slice a24 n24 c24]) xb := PX.snd
  have hws := hx.size
  clear RA FR
  (first | refine wp_region_p (by kernel_rfl) ?_ | refine wp_region_p' (by kernel_rfl) ?_); refine wpAny_ph 0 15 [0, 1, 2, 3, 4, 7, 8, 9] [5, 6, 10, 11, 12, 13, 14] [] (fun _ => .cells #[] 0) (by decide) (by kernel_rfl) (clo_first (Nat.le_of_ble_eq_true (by kernel_rfl)) (by kernel_rfl)) (fun j hj => by cases hj) ?_; simp only [List.map_cons, List.map_nil, List.getD_cons_succ, List.getD_cons_zero]; (refine wpG_l rfl (fun K hK => ?_); (with_reducible apply ex_load_row Tryz.isAgg31 Tryz.sizeOf31); (case hs => exact rfl); (case hB => exact blk_auto); (case hc => rfl); refine hK _ ?_; clear hK K); (refine wpG_l rfl (fun K hK => ?_); go_simp; refine hK _ ?_; clear hK K); (refine wpG_l rfl (fun K hK => ?_); go_simp; refine hK _ ?_; clear hK K); (refine wpG_l rfl (fun K hK => ?_); go_simp; refine hK _ ?_; clear hK K); (refine wpG_l rfl (fun K hK => ?_); go_simp; refine hK _ ?_; clear hK K); (refine wpG_l rfl (fun K hK => ?_); go_simp; refine hK _ ?_; clear hK K); (refine wpG_l rfl (fun K hK => ?_); go_simp; refine hK _ ?_; clear hK K); (refine wpG_l rfl (fun K hK => ?_); go_simp; refine hK _ ?_; clear hK K); refine wpG_nil ?_; intro d0; have hx0 : Ext v (grow v d0) := ⟨d0, rfl⟩; generalize grow v d0 = y0 at *; (refine wpX_c rfl (fun t0 ht K hK => ?_); have hx0 := hx0.trans ht; go_simp; refine ⟨_, _, ⟨rfl, rfl⟩, ?_⟩; (with_reducible refine (N1 _).mono ?_); rintro e y1 ⟨r1, rfl, hr1, hz1⟩; have hx1 : Ext v y1 := hx0.trans hz1; refine ⟨_, rfl, hz1, hK _ _ ?_⟩; clear hK K); (refine wpX_c rfl (fun t1 ht K hK => ?_); have hx1 := hx1.trans ht; have hr1 := hr1.ext ht; go_simp; refine ⟨_, _, ⟨rfl, rfl⟩, ?_⟩; (with_reducible refine (A1 _ _ _ (X1.ext hx1) hr1).mono ?_); rintro e y2 ⟨r2, rfl, hr2, hz2⟩; have hx2 : Ext v y2 := hx1.trans hz2; have hr1 := hr1.ext hz2; obtain ⟨s2, a2, n2, c2, s2', a2', n2', c2', rfl, k2, l2⟩ := hr2.opened; refine ⟨_, rfl, hz2, hK _ _ ?_⟩; clear hK K); (refine wpX_c rfl (fun t2 ht K hK => ?_); have hx2 := hx2.trans ht; have hr1 := hr1.ext ht; have hr2 := hr2.ext ht; go_simp; refine ⟨_, _, ⟨rfl, rfl⟩, ?_⟩; (with_reducible refine (N2 _).mono ?_); rintro e y3 ⟨r3, rfl, hr3, hz3⟩; have hx3 : Ext v y3 := hx2.trans hz3; have hr1 := hr1.ext hz3; have hr2 := hr2.ext hz3; refine ⟨_, rfl, hz3, hK _ _ ?_⟩; clear hK K); (refine wpX_c rfl (fun t3 ht K hK => ?_); have hx3 := hx3.trans ht; have hr1 := hr1.ext ht; have hr2 := hr2.ext ht; have hr3 := hr3.ext ht; go_simp; refine ⟨_, _, ⟨rfl, rfl⟩, ?_⟩; (with_reducible refine (A2 _ _ _ (Y1.ext hx3) hr3).mono ?_); rintro e y4 ⟨r4, rfl, hr4, hz4⟩; have hx4 : Ext v y4 := hx3.trans hz4; have hr1 := hr1.ext hz4; have hr2 := hr2.ext hz4; have hr3 := hr3.ext hz4; obtain ⟨s4, a4, n4, c4, s4', a4', n4', c4', rfl, k4, l4⟩ := hr4.opened; refine ⟨_, rfl, hz4, hK _ _ ?_⟩; clear hK K); (refine wpX_v rfl (fun t4 ht K hK => ?_); have hx4 := hx4.trans ht; have hr1 := hr1.ext ht; have hr2 := hr2.ext ht; have hr3 := hr3.ext ht; have hr4 := hr4.ext ht; go_simp; refine ⟨_, _, ⟨rfl, rfl⟩, Ext.refl _, hK _ _ ?_⟩; clear hK K); (refine wpX_c rfl (fun t4 ht K hK => ?_); have hx4 := hx4.trans ht; have hr1 := hr1.ext ht; have hr2 := hr2.ext ht; have hr3 := hr3.ext ht; have hr4 := hr4.ext ht; go_simp; refine ⟨_, _, ⟨rfl, rfl⟩, ?_⟩; (with_reducible refine (AN _ _ (PtV.join hr2 hr4)).mono ?_); rintro e y5 ⟨rfl, hz5⟩; have hx5 : Ext v y5 := hx4.trans hz5; have hr1 := hr1.ext hz5; have hr2 := hr2.ext hz5; have hr3 := hr3.ext hz5; have hr4 := hr4.ext hz5; refine ⟨_, rfl, hz5, hK _ _ ?_⟩; clear hK K); (refine wpX_v rfl (fun t5 ht K hK => ?_); have hx5 := hx5.trans ht; have hr1 := hr1.ext ht; have hr2 := hr2.ext ht; have hr3 := hr3.ext ht; have hr4 := hr4.ext ht; go_simp; refine ⟨_, _, ⟨rfl, rfl⟩, Ext.refl _, hK _ _ ?_⟩; clear hK K); refine wpX_nil (fun y ht b hb => ?_); have hxv := hx5.trans ht; have hx := hx.trans hxv; have hr1 := hr1.ext ht; have hr2 := hr2.ext ht; have hr3 := hr3.ext ht; have hr4 := hr4.ext ht; simp only [fill]; clear hb; replace BB := BB.ext hxv; clear lBB cBB fBB; replace BM := BM.ext hxv; clear lBM cBM fBM; replace BP := BP.ext hxv; clear lBP cBP fBP; replace BX := BX.ext hxv; clear lBX cBX fBX; replace PX := PX.ext hxv; replace X1 := X1.ext hxv; replace Y1 := Y1.ext hxv; clear hxv ht b; obtain ⟨v, rfl⟩ : ∃ v', v' = y := ⟨_, rfl⟩; have lBB := BB.lt; have cBB := BB.cell; have fBB := BB.frozen; have lBM := BM.lt; have cBM := BM.cell; have fBM := BM.frozen; have lBP := BP.lt; have cBP := BP.cell; have fBP := BP.frozen; have lBX := BX.lt; have cBX := BX.cell; have fBX := BX.frozen; refine wpAny_done (by kernel_rfl) ?_; simp only [List.drop_succ_cons, List.drop_zero, List.drop_nil]
  clear N1 N2 A1 A2 AN X1 Y1
  go_wp2_with (first | (go_at_call 14; (with_reducible refine (num_p _ _).mono ?_); rintro e w2 ⟨rfl, h2_⟩; subst w2) | ((with_reducible apply wpList_load_row Tryz.isAgg31 Tryz.sizeOf31); (case hw => (simp [go_sem, Region.wanted, yielded]; done)); (case hs => exact rfl); (case hB => exact blk_auto); (case hc => rfl)) | (go_at_call 11; (with_reducible refine (RB _).mono ?_); rintro e x2 ⟨rfl, hz_⟩; have hzz_ : Ext v x2 := Ext.trans ext_auto hz_; replace PX := PX.ext hzz_; replace BB := BB.ext hzz_; clear lBB cBB fBB; replace BM := BM.ext hzz_; clear lBM cBM fBM; replace BX := BX.ext hzz_; clear lBX cBX fBX; replace hx := hx.trans hzz_; clear hz_ hzz_; have lBB := BB.lt; have cBB := BB.cell; have fBB := BB.frozen; have lBM := BM.lt; have cBM := BM.cell; have fBM := BM.frozen; have lBX := BX.lt; have cBX := BX.cell; have fBX := BX.frozen))
  go_upto_region 12 with (first | ((with_reducible apply wpList_load_row Tryz.isAgg31 Tryz.sizeOf31); (case hw => (simp [go_sem, Region.wanted, yielded]; done)); (case hs => exact rfl); (case hB => exact blk_auto); (case hc => rfl)) | (go_at_call 13; (with_reducible refine (FS _).mono ?_); rintro e z2 ⟨tv, rfl, ht, hz_⟩; obtain ⟨s31, a31, n31, c31, s32, a32, n32, c32, s33, a33, n33, c33, s34, a34, n34, c34, rfl, g1, g2, g3, g4⟩ := ht; have hzz_ : Ext x2 z2 := Ext.trans ext_auto hz_; replace BM := BM.ext hzz_; replace BX := BX.ext hzz_; replace PX := PX.ext hzz_))
  refine wp_rebase fun v5 hv => ?_
  have hzv : Ext z2 v5 := by rw [hv]; exact ext_auto
  have BY : Blk v5 z2.heap.size #[.bool s31, .slice a31 n31 c31, .bool s32, .slice a32 n32 c32, .bool s33, .slice a33 n33 c33, .bool s34, .slice a34 n34 c34] 46 := by rw [hv]; exact blk_auto
  clear hv
  replace BM := BM.ext hzv
  replace BX := BX.ext hzv
  replace PX := PX.ext hzv
  have PY : PtV v5 (.agg #[.bool s31, .slice a31 n31 c31, .bool s32, .slice a32 n32 c32, .bool s33, .slice a33 n33 c33, .bool s34, .slice a34 n34 c34]) ya yb := PtV.ext ⟨_, _, _, _, _, _, _, _, _, _, _, _, _, _, _, _, rfl, g1, g2, g3, g4⟩ hzv
  replace hx := (hx.trans hzz_).trans hzv
  clear hzz_ hzv hz_ g1 g2 g3 g4
  clear lBM cBM fBM lBX cBX fBX
  have lBM := BM.lt; have cBM := BM.cell; have fBM := BM.frozen; have lBX := BX.lt; have cBX := BX.cell; have fBX := BX.frozen; have lBY := BY.lt; have cBY := BY.cell; have fBY := BY.frozen
  go_upto_region 13 with (first | ((with_reducible apply wpList_store_row info_point); (case hs => exact rfl); (case hv => exact rfl); (case hB => exact blk_auto); (case hy => rfl); (case hc => rfl); (case h1 => rfl)) | ((with_reducible apply wpList_load_row Tryz.isAgg31 Tryz.sizeOf31); (case hw => (simp [go_sem, Region.wanted, yielded]; done)); (case hs => exact rfl); (case hB => exact blk_auto); (case hc => rfl)) | (go_at_call 14; (with_reducible refine (num_p _ _).mono ?_); rintro e w2 ⟨rfl, h2_⟩; subst w2) | (go_at_call 26; (with_reducible refine (MR _ _ _ (PX.ext ext_auto) (PY.ext ext_auto)).mono ?_); rintro e z3 ⟨rfl, hz_⟩; have hzz_ : Ext v5 z3 := Ext.trans ext_auto hz_))
  refine wp_rebase fun v6 hv => ?_
  have hzv : Ext z3 v6 := by rw [hv]; exact Ext.setRow ext_auto (Nat.le_refl _)
  have BQ : Blk v6 z3.heap.size (ptsV se me te ke sf mf tf kf) 31 := by rw [hv]; exact Blk.setRowSame (Blk.new _ _ _ rfl)
  clear hv
  replace BM := (BM.ext hzz_).ext hzv
  replace BX := (BX.ext hzz_).ext hzv
  replace BY := (BY.ext hzz_).ext hzv
  replace PX := (PX.ext hzz_).ext hzv; replace PY := (PY.ext hzz_).ext hzv
  replace hx := (hx.trans hzz_).trans hzv
  clear hzz_ hzv hz_
  clear lBM cBM fBM lBX cBX fBX lBY cBY fBY
  have lBM := BM.lt; have cBM := BM.cell; have fBM := BM.frozen; have lBX := BX.lt; have cBX := BX.cell; have fBX := BX.frozen; have lBY := BY.lt; have cBY := BY.cell; have fBY := BY.frozen; have lBQ := BQ.lt; have cBQ := BQ.cell; have fBQ := BQ.frozen
  go_wp2_with (first | (go_at_call 14; (with_reducible refine (num_p _ _).mono ?_); rintro e w2 ⟨rfl, h2_⟩; subst w2) | ((with_reducible apply wpList_load_row Tryz.isAgg31 Tryz.sizeOf31); (case hw => (simp [go_sem, Region.wanted, yielded]; done)); (case hs => exact rfl); (case hB => exact blk_auto); (case hc => rfl)) | (go_at_call 27; (with_reducible refine (CR _ _ _ (PX.ext ext_auto) (PY.ext ext_auto)).mono ?_); rintro e x5 ⟨rfl, hz_⟩; have hzz_ : Ext v6 x5 := Ext.trans ext_auto hz_; replace BM := BM.ext hzz_; clear lBM cBM fBM; replace BQ := BQ.ext hzz_; clear lBQ cBQ fBQ; replace hx := hx.trans hzz_; clear hz_ hzz_; have lBM := BM.lt; have cBM := BM.cell; have fBM := BM.frozen; have lBQ := BQ.lt; have cBQ := BQ.cell; have fBQ := BQ.frozen))
  go_wp2_with (first | ((with_reducible apply wpList_load_row Tryz.isAgg31 Tryz.sizeOf31); (case hw => (simp [go_sem, Region.wanted, yielded]; done)); (case hs => exact rfl); (case hB => exact blk_auto); (case hc => rfl)) | (go_at_call 14; (with_reducible refine (num_p _ _).mono ?_); rintro e w2 ⟨rfl, h2_⟩; subst w2) | (go_at_call 18; (with_reducible refine (worksP_true _ (hT.ext (hx.trans ext_auto))).mono ?_); rintro e y9 ⟨rfl, hz_⟩; have hzz_ : Ext x5 y9 := Ext.trans ext_auto hz_))
  exact bodyPost_ret (v := .bool true) (by simp [results, Tryz.results4, go_sem]) rfl ⟨rfl, hx.trans hzz_⟩
end Go.Proofs.YtmopgcbhmkemjaaGreatDoor
