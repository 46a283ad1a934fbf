/- Ref 03's small, Node, Grid. limb.Small; point.Of; whether two nodes are the same. limb.Small. point.Of and point.Grid. -/
import Derived.Test.YtmopgcbhmkemjaaGreatDoorProg
import Derived.Test.YtmopgcbhmkemjaaGreatDoorQ08
import Derived.Test.YtmopgcbhmkemjaaGreatDoorQ04
import Derived.Test.YtmopgcbhmkemjaaGreatDoorQ07
import Derived.Test.YtmopgcbhmkemjaaGreatDoorQ14
import Derived.Test.YtmopgcbhmkemjaaGreatDoorQ09
namespace Go.Proofs.YtmopgcbhmkemjaaGreatDoor
open Go Go.RowKit
set_option linter.unusedSimpArgs false
set_option linter.unusedVariables false
set_option maxRecDepth 100000
set_option exponentiation.threshold 3000

theorem nodeR_any (x y : Int) (w : World) : Calls Tryz.prog 8 #[ndV x y] w fun e w' => e = .returned (.bool (inC x && inC y)) ∧ Ext w w' := by
  by_cases h1 : -67108864 ≤ x
  · by_cases h2 : x ≤ 67108864
    · by_cases h3 : -67108864 ≤ y
      · have hc : (inC x && inC y) = decide (y ≤ 67108864) := by unfold inC; simp [h1, h2, h3]
        rw [hc]
        go_enter Tryz.func8, Tryz.ntmps8
        go_wp2
        exact bodyPost_ret (v := .bool (decide (y ≤ 67108864))) (by simp [results, Tryz.results8, go_sem]) rfl ⟨rfl, ext_auto⟩
      · have hc : (inC x && inC y) = false := by unfold inC; simp [h1, h2, h3]
        rw [hc]
        go_enter Tryz.func8, Tryz.ntmps8
        go_wp2
        exact bodyPost_ret (v := .bool false) (by simp [results, Tryz.results8, go_sem]) rfl ⟨rfl, ext_auto⟩
    · have hc : (inC x && inC y) = false := by unfold inC; simp [h1, h2]
      rw [hc]
      go_enter Tryz.func8, Tryz.ntmps8
      go_wp2
      exact bodyPost_ret (v := .bool false) (by simp [results, Tryz.results8, go_sem]) rfl ⟨rfl, ext_auto⟩
  · have hc : (inC x && inC y) = false := by unfold inC; simp [h1]
    rw [hc]
    go_enter Tryz.func8, Tryz.ntmps8
    go_wp2
    exact bodyPost_ret (v := .bool false) (by simp [results, Tryz.results8, go_sem]) rfl ⟨rfl, ext_auto⟩
set_option maxHeartbeats 8000000 in
theorem smallR_0 (s : Bool) (a : Option Addr) (n c : Nat) (s' : Bool) (a' : Option Addr) (n' c' : Nat) (w : World) 
    (CM : ∀ v w', Ext w w' → BigV w' v 1 → Calls Tryz.prog 73 #[.agg (bigC s' a' n' c'), v] w' fun e w2 => e = .returned (.int .i64 1) ∧ Ext w' w2) : Calls Tryz.prog 38 #[(.agg #[.bool s, .slice a n c, .bool s', .slice a' n' c'])] w fun e w' => e = .returned (.tuple #[.int .i64 0, .bool false]) ∧ Ext w w' := by
  have hx : Ext w w := Ext.refl w
  have N1 : ∀ w, Calls Tryz.prog 57 #[.int .i64 1] w (RetB (fun W r => BigV W r 1) w) := fun w => bNum 1 (by decide) (by decide) w
  go_enter Tryz.func38, Tryz.ntmps38
  go_upto_region 1 with fail
  refine wp_rebase fun v hv => ?_
  have hxv : Ext w v := by rw [hv]; exact ext_auto
  have BA : Blk v w.heap.size #[.bool s, .slice a n c, .bool s', .slice a' n' c'] 44 := by rw [hv]; exact blk_auto
  clear hv
  replace hx := hxv
  have lBA := BA.lt; have cBA := BA.cell; have fBA := BA.frozen
  (first | refine wp_region_p (by kernel_rfl) ?_ | refine wp_region_p' (by kernel_rfl) ?_); refine wpAny_ph 0 8 [0, 1] [2, 3, 4, 5, 6, 7] [] (fun _ => .cells #[] 0) (by decide) (by kernel_rfl) (clo_first (Nat.le_of_ble_eq_true (by kernel_rfl)) (by kernel_rfl)) (fun j hj => by cases hj) ?_; simp only [List.map_cons, List.map_nil, List.getD_cons_succ, List.getD_cons_zero]; (refine wpG_l rfl (fun K hK => ?_); go_simp; refine hK _ ?_; clear hK K); (refine wpG_l rfl (fun K hK => ?_); go_simp; refine hK _ ?_; clear hK K); refine wpG_nil ?_; intro d0; have hx0 : Ext v (grow v d0) := ⟨d0, rfl⟩; generalize grow v d0 = y0 at *; (refine wpX_c rfl (fun t0 ht K hK => ?_); have hx0 := hx0.trans ht; go_simp; refine ⟨_, _, ⟨rfl, rfl⟩, ?_⟩; (with_reducible refine (N1 _).mono ?_); rintro e y1 ⟨r1, rfl, hr1, hz1⟩; have hx1 : Ext v y1 := hx0.trans hz1; refine ⟨_, rfl, hz1, hK _ _ ?_⟩; clear hK K); (refine wpX_c rfl (fun t1 ht K hK => ?_); have hx1 := hx1.trans ht; have hr1 := hr1.ext ht; go_simp; refine ⟨_, _, ⟨rfl, rfl⟩, ?_⟩; (with_reducible refine (CM _ _ (hx.trans hx1) hr1).mono ?_); rintro e y2 ⟨rfl, hz2⟩; have hx2 : Ext v y2 := hx1.trans hz2; have hr1 := hr1.ext hz2; refine ⟨_, rfl, hz2, hK _ _ ?_⟩; clear hK K); (refine wpX_v rfl (fun t2 ht K hK => ?_); have hx2 := hx2.trans ht; have hr1 := hr1.ext ht; go_simp; refine ⟨_, _, ⟨rfl, rfl⟩, Ext.refl _, hK _ _ ?_⟩; clear hK K); (refine wpX_v rfl (fun t2 ht K hK => ?_); have hx2 := hx2.trans ht; have hr1 := hr1.ext ht; go_simp; refine ⟨_, _, ⟨rfl, rfl⟩, Ext.refl _, hK _ _ ?_⟩; clear hK K); (first | (refine wpX_v ?_ (fun t2 ht K hK => ?_); (· (simp [go_sem, Region.wanted, yielded]; done)); have hx2 := hx2.trans ht; have hr1 := hr1.ext ht; go_simp; refine ⟨_, _, ⟨rfl, rfl⟩, Ext.refl _, hK _ _ ?_⟩; clear hK K) | (refine wpX_s ?_ (fun t2 ht => ?_); (· (simp [go_sem, Region.wanted, yielded]; done)); have hx2 := hx2.trans ht; have hr1 := hr1.ext ht)); (first | (refine wpX_v ?_ (fun t2 ht K hK => ?_); (· (simp [go_sem, Region.wanted, yielded]; done)); have hx2 := hx2.trans ht; have hr1 := hr1.ext ht; go_simp; refine ⟨_, _, ⟨rfl, rfl⟩, Ext.refl _, hK _ _ ?_⟩; clear hK K) | (refine wpX_s ?_ (fun t2 ht => ?_); (· (simp [go_sem, Region.wanted, yielded]; done)); have hx2 := hx2.trans ht; have hr1 := hr1.ext ht)); refine wpX_nil (fun y ht b hb => ?_); have hxv := hx2.trans ht; have hx := hx.trans hxv; have hr1 := hr1.ext ht; simp only [fill]; clear hb; replace BA := BA.ext hxv; clear lBA cBA fBA; clear hxv ht b; obtain ⟨v, rfl⟩ : ∃ v', v' = y := ⟨_, rfl⟩; have lBA := BA.lt; have cBA := BA.cell; have fBA := BA.frozen; refine wpAny_at ?_; refine wpAny_ph 8 12 [8] [9, 10, 11] [] (fun _ => .cells #[] 0) (by decide) (by kernel_rfl) (clo_first (Nat.le_of_ble_eq_true (by kernel_rfl)) (by kernel_rfl)) (fun j hj => by cases hj) ?_; simp only [List.map_cons, List.map_nil, List.getD_cons_succ, List.getD_cons_zero]; (first | (refine wpG_l ?_ (fun K hK => ?_); (· (simp [go_sem, Region.wanted, yielded]; done)); go_simp; refine hK _ ?_; clear hK K) | (refine wpG_s ?_ ?_; (· (simp [go_sem, Region.wanted, yielded]; done)))); refine wpG_nil ?_; intro d0; have hx2 : Ext v (grow v d0) := ⟨d0, rfl⟩; have hr1 := hr1.ext hx2; generalize grow v d0 = y2 at *; (first | (refine wpX_v ?_ (fun t2 ht K hK => ?_); (· (simp [go_sem, Region.wanted, yielded]; done)); have hx2 := hx2.trans ht; have hr1 := hr1.ext ht; go_simp; refine ⟨_, _, ⟨rfl, rfl⟩, Ext.refl _, hK _ _ ?_⟩; clear hK K) | (refine wpX_s ?_ (fun t2 ht => ?_); (· (simp [go_sem, Region.wanted, yielded]; done)); have hx2 := hx2.trans ht; have hr1 := hr1.ext ht)); (first | (refine wpX_v ?_ (fun t2 ht K hK => ?_); (· (simp [go_sem, Region.wanted, yielded]; done)); have hx2 := hx2.trans ht; have hr1 := hr1.ext ht; go_simp; refine ⟨_, _, ⟨rfl, rfl⟩, Ext.refl _, hK _ _ ?_⟩; clear hK K) | (refine wpX_s ?_ (fun t2 ht => ?_); (· (simp [go_sem, Region.wanted, yielded]; done)); have hx2 := hx2.trans ht; have hr1 := hr1.ext ht)); (refine wpX_v rfl (fun t2 ht K hK => ?_); have hx2 := hx2.trans ht; have hr1 := hr1.ext ht; go_simp; refine ⟨_, _, ⟨rfl, rfl⟩, Ext.refl _, hK _ _ ?_⟩; clear hK K); refine wpX_nil (fun y ht b hb => ?_); have hxv := hx2.trans ht; have hx := hx.trans hxv; have hr1 := hr1.ext ht; simp only [fill]; clear hb; replace BA := BA.ext hxv; clear lBA cBA fBA; clear hxv ht b; obtain ⟨v, rfl⟩ : ∃ v', v' = y := ⟨_, rfl⟩; have lBA := BA.lt; have cBA := BA.cell; have fBA := BA.frozen; refine wpAny_done (by kernel_rfl) ?_; simp only [List.drop_succ_cons, List.drop_zero, List.drop_nil]
  go_wp2
  exact bodyPost_ret (v := .tuple #[.int .i64 0, .bool false]) (by simp [results, Tryz.results38, go_sem]) rfl ⟨rfl, hx⟩
set_option maxHeartbeats 8000000 in
theorem smallR_1 (s : Bool) (a : Option Addr) (n c : Nat) (s' : Bool) (a' : Option Addr) (n' c' : Nat) (w : World)  (hn : 2 < n)
    (CM : ∀ v w', Ext w w' → BigV w' v 1 → Calls Tryz.prog 73 #[.agg (bigC s' a' n' c'), v] w' fun e w2 => e = .returned (.int .i64 0) ∧ Ext w' w2) : Calls Tryz.prog 38 #[(.agg #[.bool s, .slice a n c, .bool s', .slice a' n' c'])] w fun e w' => e = .returned (.tuple #[.int .i64 0, .bool false]) ∧ Ext w w' := by
  have hx : Ext w w := Ext.refl w
  have N1 : ∀ w, Calls Tryz.prog 57 #[.int .i64 1] w (RetB (fun W r => BigV W r 1) w) := fun w => bNum 1 (by decide) (by decide) w
  have hn' : (2 : Int) < (n : Int) := by omega
  go_enter Tryz.func38, Tryz.ntmps38
  go_upto_region 1 with fail
  refine wp_rebase fun v hv => ?_
  have hxv : Ext w v := by rw [hv]; exact ext_auto
  have BA : Blk v w.heap.size #[.bool s, .slice a n c, .bool s', .slice a' n' c'] 44 := by rw [hv]; exact blk_auto
  clear hv
  replace hx := hxv
  have lBA := BA.lt; have cBA := BA.cell; have fBA := BA.frozen
  (first | refine wp_region_p (by kernel_rfl) ?_ | refine wp_region_p' (by kernel_rfl) ?_); refine wpAny_ph 0 8 [0, 1] [2, 3, 4, 5, 6, 7] [] (fun _ => .cells #[] 0) (by decide) (by kernel_rfl) (clo_first (Nat.le_of_ble_eq_true (by kernel_rfl)) (by kernel_rfl)) (fun j hj => by cases hj) ?_; simp only [List.map_cons, List.map_nil, List.getD_cons_succ, List.getD_cons_zero]; (refine wpG_l rfl (fun K hK => ?_); go_simp; refine hK _ ?_; clear hK K); (refine wpG_l rfl (fun K hK => ?_); go_simp; refine hK _ ?_; clear hK K); refine wpG_nil ?_; intro d0; have hx0 : Ext v (grow v d0) := ⟨d0, rfl⟩; generalize grow v d0 = y0 at *; (refine wpX_c rfl (fun t0 ht K hK => ?_); have hx0 := hx0.trans ht; go_simp; refine ⟨_, _, ⟨rfl, rfl⟩, ?_⟩; (with_reducible refine (N1 _).mono ?_); rintro e y1 ⟨r1, rfl, hr1, hz1⟩; have hx1 : Ext v y1 := hx0.trans hz1; refine ⟨_, rfl, hz1, hK _ _ ?_⟩; clear hK K); (refine wpX_c rfl (fun t1 ht K hK => ?_); have hx1 := hx1.trans ht; have hr1 := hr1.ext ht; go_simp; refine ⟨_, _, ⟨rfl, rfl⟩, ?_⟩; (with_reducible refine (CM _ _ (hx.trans hx1) hr1).mono ?_); rintro e y2 ⟨rfl, hz2⟩; have hx2 : Ext v y2 := hx1.trans hz2; have hr1 := hr1.ext hz2; refine ⟨_, rfl, hz2, hK _ _ ?_⟩; clear hK K); (refine wpX_v rfl (fun t2 ht K hK => ?_); have hx2 := hx2.trans ht; have hr1 := hr1.ext ht; go_simp; refine ⟨_, _, ⟨rfl, rfl⟩, Ext.refl _, hK _ _ ?_⟩; clear hK K); (refine wpX_v rfl (fun t2 ht K hK => ?_); have hx2 := hx2.trans ht; have hr1 := hr1.ext ht; go_simp; refine ⟨_, _, ⟨rfl, rfl⟩, Ext.refl _, hK _ _ ?_⟩; clear hK K); (first | (refine wpX_v ?_ (fun t2 ht K hK => ?_); (· (simp [go_sem, Region.wanted, yielded]; done)); have hx2 := hx2.trans ht; have hr1 := hr1.ext ht; go_simp; refine ⟨_, _, ⟨rfl, rfl⟩, Ext.refl _, hK _ _ ?_⟩; clear hK K) | (refine wpX_s ?_ (fun t2 ht => ?_); (· (simp [go_sem, Region.wanted, yielded]; done)); have hx2 := hx2.trans ht; have hr1 := hr1.ext ht)); (first | (refine wpX_v ?_ (fun t2 ht K hK => ?_); (· (simp [go_sem, Region.wanted, yielded]; done)); have hx2 := hx2.trans ht; have hr1 := hr1.ext ht; go_simp; refine ⟨_, _, ⟨rfl, rfl⟩, Ext.refl _, hK _ _ ?_⟩; clear hK K) | (refine wpX_s ?_ (fun t2 ht => ?_); (· (simp [go_sem, Region.wanted, yielded]; done)); have hx2 := hx2.trans ht; have hr1 := hr1.ext ht)); refine wpX_nil (fun y ht b hb => ?_); have hxv := hx2.trans ht; have hx := hx.trans hxv; have hr1 := hr1.ext ht; simp only [fill]; clear hb; replace BA := BA.ext hxv; clear lBA cBA fBA; clear hxv ht b; obtain ⟨v, rfl⟩ : ∃ v', v' = y := ⟨_, rfl⟩; have lBA := BA.lt; have cBA := BA.cell; have fBA := BA.frozen; refine wpAny_at ?_; refine wpAny_ph 8 12 [8] [9, 10, 11] [] (fun _ => .cells #[] 0) (by decide) (by kernel_rfl) (clo_first (Nat.le_of_ble_eq_true (by kernel_rfl)) (by kernel_rfl)) (fun j hj => by cases hj) ?_; simp only [List.map_cons, List.map_nil, List.getD_cons_succ, List.getD_cons_zero]; (first | (refine wpG_l ?_ (fun K hK => ?_); (· (simp [go_sem, Region.wanted, yielded]; done)); go_simp; refine hK _ ?_; clear hK K) | (refine wpG_s ?_ ?_; (· (simp [go_sem, Region.wanted, yielded]; done)))); refine wpG_nil ?_; intro d0; have hx2 : Ext v (grow v d0) := ⟨d0, rfl⟩; have hr1 := hr1.ext hx2; generalize grow v d0 = y2 at *; (first | (refine wpX_v ?_ (fun t2 ht K hK => ?_); (· (simp [go_sem, Region.wanted, yielded]; done)); have hx2 := hx2.trans ht; have hr1 := hr1.ext ht; go_simp; refine ⟨_, _, ⟨rfl, rfl⟩, Ext.refl _, hK _ _ ?_⟩; clear hK K) | (refine wpX_s ?_ (fun t2 ht => ?_); (· (simp [go_sem, Region.wanted, yielded]; done)); have hx2 := hx2.trans ht; have hr1 := hr1.ext ht)); (first | (refine wpX_v ?_ (fun t2 ht K hK => ?_); (· (simp [go_sem, Region.wanted, yielded]; done)); have hx2 := hx2.trans ht; have hr1 := hr1.ext ht; go_simp; refine ⟨_, _, ⟨rfl, rfl⟩, Ext.refl _, hK _ _ ?_⟩; clear hK K) | (refine wpX_s ?_ (fun t2 ht => ?_); (· (simp [go_sem, Region.wanted, yielded]; done)); have hx2 := hx2.trans ht; have hr1 := hr1.ext ht)); (refine wpX_v rfl (fun t2 ht K hK => ?_); have hx2 := hx2.trans ht; have hr1 := hr1.ext ht; go_simp; refine ⟨_, _, ⟨rfl, rfl⟩, Ext.refl _, hK _ _ ?_⟩; clear hK K); refine wpX_nil (fun y ht b hb => ?_); have hxv := hx2.trans ht; have hx := hx.trans hxv; have hr1 := hr1.ext ht; simp only [fill]; clear hb; replace BA := BA.ext hxv; clear lBA cBA fBA; clear hxv ht b; obtain ⟨v, rfl⟩ : ∃ v', v' = y := ⟨_, rfl⟩; have lBA := BA.lt; have cBA := BA.cell; have fBA := BA.frozen; refine wpAny_done (by kernel_rfl) ?_; simp only [List.drop_succ_cons, List.drop_zero, List.drop_nil]
  go_wp2
  exact bodyPost_ret (v := .tuple #[.int .i64 0, .bool false]) (by simp [results, Tryz.results38, go_sem]) rfl ⟨rfl, hx⟩
set_option maxHeartbeats 8000000 in
theorem smallR_2 (s : Bool) (a : Option Addr) (n c : Nat) (s' : Bool) (a' : Option Addr) (n' c' : Nat) (w : World) 
    (CM : ∀ v w', Ext w w' → BigV w' v 1 → Calls Tryz.prog 73 #[.agg (bigC s' a' n' c'), v] w' fun e w2 => e = .returned (.int .i64 0) ∧ Ext w' w2) : Calls Tryz.prog 38 #[(.agg #[.bool false, .slice a 0 c, .bool s', .slice a' n' c'])] w fun e w' => e = .returned (.tuple #[.int .i64 0, .bool true]) ∧ Ext w w' := by
  have hx : Ext w w := Ext.refl w
  have N1 : ∀ w, Calls Tryz.prog 57 #[.int .i64 1] w (RetB (fun W r => BigV W r 1) w) := fun w => bNum 1 (by decide) (by decide) w
  go_enter Tryz.func38, Tryz.ntmps38
  go_upto_region 1 with fail
  refine wp_rebase fun v hv => ?_
  have hxv : Ext w v := by rw [hv]; exact ext_auto
  have BA : Blk v w.heap.size #[.bool false, .slice a 0 c, .bool s', .slice a' n' c'] 44 := by rw [hv]; exact blk_auto
  clear hv
  replace hx := hxv
  have lBA := BA.lt; have cBA := BA.cell; have fBA := BA.frozen
  (first | refine wp_region_p (by kernel_rfl) ?_ | refine wp_region_p' (by kernel_rfl) ?_); refine wpAny_ph 0 8 [0, 1] [2, 3, 4, 5, 6, 7] [] (fun _ => .cells #[] 0) (by decide) (by kernel_rfl) (clo_first (Nat.le_of_ble_eq_true (by kernel_rfl)) (by kernel_rfl)) (fun j hj => by cases hj) ?_; simp only [List.map_cons, List.map_nil, List.getD_cons_succ, List.getD_cons_zero]; (refine wpG_l rfl (fun K hK => ?_); go_simp; refine hK _ ?_; clear hK K); (refine wpG_l rfl (fun K hK => ?_); go_simp; refine hK _ ?_; clear hK K); refine wpG_nil ?_; intro d0; have hx0 : Ext v (grow v d0) := ⟨d0, rfl⟩; generalize grow v d0 = y0 at *; (refine wpX_c rfl (fun t0 ht K hK => ?_); have hx0 := hx0.trans ht; go_simp; refine ⟨_, _, ⟨rfl, rfl⟩, ?_⟩; (with_reducible refine (N1 _).mono ?_); rintro e y1 ⟨r1, rfl, hr1, hz1⟩; have hx1 : Ext v y1 := hx0.trans hz1; refine ⟨_, rfl, hz1, hK _ _ ?_⟩; clear hK K); (refine wpX_c rfl (fun t1 ht K hK => ?_); have hx1 := hx1.trans ht; have hr1 := hr1.ext ht; go_simp; refine ⟨_, _, ⟨rfl, rfl⟩, ?_⟩; (with_reducible refine (CM _ _ (hx.trans hx1) hr1).mono ?_); rintro e y2 ⟨rfl, hz2⟩; have hx2 : Ext v y2 := hx1.trans hz2; have hr1 := hr1.ext hz2; refine ⟨_, rfl, hz2, hK _ _ ?_⟩; clear hK K); (refine wpX_v rfl (fun t2 ht K hK => ?_); have hx2 := hx2.trans ht; have hr1 := hr1.ext ht; go_simp; refine ⟨_, _, ⟨rfl, rfl⟩, Ext.refl _, hK _ _ ?_⟩; clear hK K); (refine wpX_v rfl (fun t2 ht K hK => ?_); have hx2 := hx2.trans ht; have hr1 := hr1.ext ht; go_simp; refine ⟨_, _, ⟨rfl, rfl⟩, Ext.refl _, hK _ _ ?_⟩; clear hK K); (first | (refine wpX_v ?_ (fun t2 ht K hK => ?_); (· (simp [go_sem, Region.wanted, yielded]; done)); have hx2 := hx2.trans ht; have hr1 := hr1.ext ht; go_simp; refine ⟨_, _, ⟨rfl, rfl⟩, Ext.refl _, hK _ _ ?_⟩; clear hK K) | (refine wpX_s ?_ (fun t2 ht => ?_); (· (simp [go_sem, Region.wanted, yielded]; done)); have hx2 := hx2.trans ht; have hr1 := hr1.ext ht)); (first | (refine wpX_v ?_ (fun t2 ht K hK => ?_); (· (simp [go_sem, Region.wanted, yielded]; done)); have hx2 := hx2.trans ht; have hr1 := hr1.ext ht; go_simp; refine ⟨_, _, ⟨rfl, rfl⟩, Ext.refl _, hK _ _ ?_⟩; clear hK K) | (refine wpX_s ?_ (fun t2 ht => ?_); (· (simp [go_sem, Region.wanted, yielded]; done)); have hx2 := hx2.trans ht; have hr1 := hr1.ext ht)); refine wpX_nil (fun y ht b hb => ?_); have hxv := hx2.trans ht; have hx := hx.trans hxv; have hr1 := hr1.ext ht; simp only [fill]; clear hb; replace BA := BA.ext hxv; clear lBA cBA fBA; clear hxv ht b; obtain ⟨v, rfl⟩ : ∃ v', v' = y := ⟨_, rfl⟩; have lBA := BA.lt; have cBA := BA.cell; have fBA := BA.frozen; refine wpAny_at ?_; refine wpAny_ph 8 12 [8] [9, 10, 11] [] (fun _ => .cells #[] 0) (by decide) (by kernel_rfl) (clo_first (Nat.le_of_ble_eq_true (by kernel_rfl)) (by kernel_rfl)) (fun j hj => by cases hj) ?_; simp only [List.map_cons, List.map_nil, List.getD_cons_succ, List.getD_cons_zero]; (first | (refine wpG_l ?_ (fun K hK => ?_); (· (simp [go_sem, Region.wanted, yielded]; done)); go_simp; refine hK _ ?_; clear hK K) | (refine wpG_s ?_ ?_; (· (simp [go_sem, Region.wanted, yielded]; done)))); refine wpG_nil ?_; intro d0; have hx2 : Ext v (grow v d0) := ⟨d0, rfl⟩; have hr1 := hr1.ext hx2; generalize grow v d0 = y2 at *; (first | (refine wpX_v ?_ (fun t2 ht K hK => ?_); (· (simp [go_sem, Region.wanted, yielded]; done)); have hx2 := hx2.trans ht; have hr1 := hr1.ext ht; go_simp; refine ⟨_, _, ⟨rfl, rfl⟩, Ext.refl _, hK _ _ ?_⟩; clear hK K) | (refine wpX_s ?_ (fun t2 ht => ?_); (· (simp [go_sem, Region.wanted, yielded]; done)); have hx2 := hx2.trans ht; have hr1 := hr1.ext ht)); (first | (refine wpX_v ?_ (fun t2 ht K hK => ?_); (· (simp [go_sem, Region.wanted, yielded]; done)); have hx2 := hx2.trans ht; have hr1 := hr1.ext ht; go_simp; refine ⟨_, _, ⟨rfl, rfl⟩, Ext.refl _, hK _ _ ?_⟩; clear hK K) | (refine wpX_s ?_ (fun t2 ht => ?_); (· (simp [go_sem, Region.wanted, yielded]; done)); have hx2 := hx2.trans ht; have hr1 := hr1.ext ht)); (refine wpX_v rfl (fun t2 ht K hK => ?_); have hx2 := hx2.trans ht; have hr1 := hr1.ext ht; go_simp; refine ⟨_, _, ⟨rfl, rfl⟩, Ext.refl _, hK _ _ ?_⟩; clear hK K); refine wpX_nil (fun y ht b hb => ?_); have hxv := hx2.trans ht; have hx := hx.trans hxv; have hr1 := hr1.ext ht; simp only [fill]; clear hb; replace BA := BA.ext hxv; clear lBA cBA fBA; clear hxv ht b; obtain ⟨v, rfl⟩ : ∃ v', v' = y := ⟨_, rfl⟩; have lBA := BA.lt; have cBA := BA.cell; have fBA := BA.frozen; refine wpAny_done (by kernel_rfl) ?_; simp only [List.drop_succ_cons, List.drop_zero, List.drop_nil]
  go_wp2
  refine wp_loop_rounds 1 ?_
  rw [rounds_succ]
  go_wp2
  exact bodyPost_ret (v := .tuple #[.int .i64 0, .bool true]) (by simp [results, Tryz.results38, go_sem]) rfl ⟨rfl, hx⟩
set_option maxHeartbeats 8000000 in
theorem smallR_3 (s : Bool) (a : Option Addr) (n c : Nat) (s' : Bool) (a' : Option Addr) (n' c' : Nat) (w : World)  (b o : Nat) (g0 : Nat) (hg0 : g0 < 65536) (hc0 : w.cell? ⟨b, o, none⟩ = some (i64 g0))
    (CM : ∀ v w', Ext w w' → BigV w' v 1 → Calls Tryz.prog 73 #[.agg (bigC s' a' n' c'), v] w' fun e w2 => e = .returned (.int .i64 0) ∧ Ext w' w2) : Calls Tryz.prog 38 #[(.agg #[.bool true, .slice (some ⟨b, o, none⟩) 1 c, .bool s', .slice a' n' c'])] w fun e w' => e = .returned (.tuple #[.int .i64 (-(g0 : Int)), .bool true]) ∧ Ext w w' := by
  have hx : Ext w w := Ext.refl w
  have N1 : ∀ w, Calls Tryz.prog 57 #[.int .i64 1] w (RetB (fun W r => BigV W r 1) w) := fun w => bNum 1 (by decide) (by decide) w
  go_enter Tryz.func38, Tryz.ntmps38
  go_upto_region 1 with fail
  refine wp_rebase fun v hv => ?_
  have hxv : Ext w v := by rw [hv]; exact ext_auto
  have BA : Blk v w.heap.size #[.bool true, .slice (some ⟨b, o, none⟩) 1 c, .bool s', .slice a' n' c'] 44 := by rw [hv]; exact blk_auto
  clear hv
  replace hx := hxv
  have lBA := BA.lt; have cBA := BA.cell; have fBA := BA.frozen
  (first | refine wp_region_p (by kernel_rfl) ?_ | refine wp_region_p' (by kernel_rfl) ?_); refine wpAny_ph 0 8 [0, 1] [2, 3, 4, 5, 6, 7] [] (fun _ => .cells #[] 0) (by decide) (by kernel_rfl) (clo_first (Nat.le_of_ble_eq_true (by kernel_rfl)) (by kernel_rfl)) (fun j hj => by cases hj) ?_; simp only [List.map_cons, List.map_nil, List.getD_cons_succ, List.getD_cons_zero]; (refine wpG_l rfl (fun K hK => ?_); go_simp; refine hK _ ?_; clear hK K); (refine wpG_l rfl (fun K hK => ?_); go_simp; refine hK _ ?_; clear hK K); refine wpG_nil ?_; intro d0; have hx0 : Ext v (grow v d0) := ⟨d0, rfl⟩; generalize grow v d0 = y0 at *; (refine wpX_c rfl (fun t0 ht K hK => ?_); have hx0 := hx0.trans ht; go_simp; refine ⟨_, _, ⟨rfl, rfl⟩, ?_⟩; (with_reducible refine (N1 _).mono ?_); rintro e y1 ⟨r1, rfl, hr1, hz1⟩; have hx1 : Ext v y1 := hx0.trans hz1; refine ⟨_, rfl, hz1, hK _ _ ?_⟩; clear hK K); (refine wpX_c rfl (fun t1 ht K hK => ?_); have hx1 := hx1.trans ht; have hr1 := hr1.ext ht; go_simp; refine ⟨_, _, ⟨rfl, rfl⟩, ?_⟩; (with_reducible refine (CM _ _ (hx.trans hx1) hr1).mono ?_); rintro e y2 ⟨rfl, hz2⟩; have hx2 : Ext v y2 := hx1.trans hz2; have hr1 := hr1.ext hz2; refine ⟨_, rfl, hz2, hK _ _ ?_⟩; clear hK K); (refine wpX_v rfl (fun t2 ht K hK => ?_); have hx2 := hx2.trans ht; have hr1 := hr1.ext ht; go_simp; refine ⟨_, _, ⟨rfl, rfl⟩, Ext.refl _, hK _ _ ?_⟩; clear hK K); (refine wpX_v rfl (fun t2 ht K hK => ?_); have hx2 := hx2.trans ht; have hr1 := hr1.ext ht; go_simp; refine ⟨_, _, ⟨rfl, rfl⟩, Ext.refl _, hK _ _ ?_⟩; clear hK K); (first | (refine wpX_v ?_ (fun t2 ht K hK => ?_); (· (simp [go_sem, Region.wanted, yielded]; done)); have hx2 := hx2.trans ht; have hr1 := hr1.ext ht; go_simp; refine ⟨_, _, ⟨rfl, rfl⟩, Ext.refl _, hK _ _ ?_⟩; clear hK K) | (refine wpX_s ?_ (fun t2 ht => ?_); (· (simp [go_sem, Region.wanted, yielded]; done)); have hx2 := hx2.trans ht; have hr1 := hr1.ext ht)); (first | (refine wpX_v ?_ (fun t2 ht K hK => ?_); (· (simp [go_sem, Region.wanted, yielded]; done)); have hx2 := hx2.trans ht; have hr1 := hr1.ext ht; go_simp; refine ⟨_, _, ⟨rfl, rfl⟩, Ext.refl _, hK _ _ ?_⟩; clear hK K) | (refine wpX_s ?_ (fun t2 ht => ?_); (· (simp [go_sem, Region.wanted, yielded]; done)); have hx2 := hx2.trans ht; have hr1 := hr1.ext ht)); refine wpX_nil (fun y ht b hb => ?_); have hxv := hx2.trans ht; have hx := hx.trans hxv; have hr1 := hr1.ext ht; simp only [fill]; clear hb; replace BA := BA.ext hxv; clear lBA cBA fBA; clear hxv ht b; obtain ⟨v, rfl⟩ : ∃ v', v' = y := ⟨_, rfl⟩; have lBA := BA.lt; have cBA := BA.cell; have fBA := BA.frozen; refine wpAny_at ?_; refine wpAny_ph 8 12 [8] [9, 10, 11] [] (fun _ => .cells #[] 0) (by decide) (by kernel_rfl) (clo_first (Nat.le_of_ble_eq_true (by kernel_rfl)) (by kernel_rfl)) (fun j hj => by cases hj) ?_; simp only [List.map_cons, List.map_nil, List.getD_cons_succ, List.getD_cons_zero]; (first | (refine wpG_l ?_ (fun K hK => ?_); (· (simp [go_sem, Region.wanted, yielded]; done)); go_simp; refine hK _ ?_; clear hK K) | (refine wpG_s ?_ ?_; (· (simp [go_sem, Region.wanted, yielded]; done)))); refine wpG_nil ?_; intro d0; have hx2 : Ext v (grow v d0) := ⟨d0, rfl⟩; have hr1 := hr1.ext hx2; generalize grow v d0 = y2 at *; (first | (refine wpX_v ?_ (fun t2 ht K hK => ?_); (· (simp [go_sem, Region.wanted, yielded]; done)); have hx2 := hx2.trans ht; have hr1 := hr1.ext ht; go_simp; refine ⟨_, _, ⟨rfl, rfl⟩, Ext.refl _, hK _ _ ?_⟩; clear hK K) | (refine wpX_s ?_ (fun t2 ht => ?_); (· (simp [go_sem, Region.wanted, yielded]; done)); have hx2 := hx2.trans ht; have hr1 := hr1.ext ht)); (first | (refine wpX_v ?_ (fun t2 ht K hK => ?_); (· (simp [go_sem, Region.wanted, yielded]; done)); have hx2 := hx2.trans ht; have hr1 := hr1.ext ht; go_simp; refine ⟨_, _, ⟨rfl, rfl⟩, Ext.refl _, hK _ _ ?_⟩; clear hK K) | (refine wpX_s ?_ (fun t2 ht => ?_); (· (simp [go_sem, Region.wanted, yielded]; done)); have hx2 := hx2.trans ht; have hr1 := hr1.ext ht)); (refine wpX_v rfl (fun t2 ht K hK => ?_); have hx2 := hx2.trans ht; have hr1 := hr1.ext ht; go_simp; refine ⟨_, _, ⟨rfl, rfl⟩, Ext.refl _, hK _ _ ?_⟩; clear hK K); refine wpX_nil (fun y ht b hb => ?_); have hxv := hx2.trans ht; have hx := hx.trans hxv; have hr1 := hr1.ext ht; simp only [fill]; clear hb; replace BA := BA.ext hxv; clear lBA cBA fBA; clear hxv ht b; obtain ⟨v, rfl⟩ : ∃ v', v' = y := ⟨_, rfl⟩; have lBA := BA.lt; have cBA := BA.cell; have fBA := BA.frozen; refine wpAny_done (by kernel_rfl) ?_; simp only [List.drop_succ_cons, List.drop_zero, List.drop_nil]
  replace hc0 := hx.cell hc0
  go_wp2
  refine wp_loop_rounds 2 ?_
  rw [rounds_succ]
  go_wp2
  rw [rounds_succ]
  go_wp2
  exact bodyPost_ret (v := .tuple #[.int .i64 (-(g0 : Int)), .bool true]) (by simp [results, Tryz.results38, go_sem]) rfl ⟨rfl, hx⟩
set_option maxHeartbeats 8000000 in
theorem smallR_4 (s : Bool) (a : Option Addr) (n c : Nat) (s' : Bool) (a' : Option Addr) (n' c' : Nat) (w : World)  (b o : Nat) (g0 : Nat) (hg0 : g0 < 65536) (hc0 : w.cell? ⟨b, o, none⟩ = some (i64 g0))
    (CM : ∀ v w', Ext w w' → BigV w' v 1 → Calls Tryz.prog 73 #[.agg (bigC s' a' n' c'), v] w' fun e w2 => e = .returned (.int .i64 0) ∧ Ext w' w2) : Calls Tryz.prog 38 #[(.agg #[.bool false, .slice (some ⟨b, o, none⟩) 1 c, .bool s', .slice a' n' c'])] w fun e w' => e = .returned (.tuple #[.int .i64 (g0 : Int), .bool true]) ∧ Ext w w' := by
  have hx : Ext w w := Ext.refl w
  have N1 : ∀ w, Calls Tryz.prog 57 #[.int .i64 1] w (RetB (fun W r => BigV W r 1) w) := fun w => bNum 1 (by decide) (by decide) w
  go_enter Tryz.func38, Tryz.ntmps38
  go_upto_region 1 with fail
  refine wp_rebase fun v hv => ?_
  have hxv : Ext w v := by rw [hv]; exact ext_auto
  have BA : Blk v w.heap.size #[.bool false, .slice (some ⟨b, o, none⟩) 1 c, .bool s', .slice a' n' c'] 44 := by rw [hv]; exact blk_auto
  clear hv
  replace hx := hxv
  have lBA := BA.lt; have cBA := BA.cell; have fBA := BA.frozen
  (first | refine wp_region_p (by kernel_rfl) ?_ | refine wp_region_p' (by kernel_rfl) ?_); refine wpAny_ph 0 8 [0, 1] [2, 3, 4, 5, 6, 7] [] (fun _ => .cells #[] 0) (by decide) (by kernel_rfl) (clo_first (Nat.le_of_ble_eq_true (by kernel_rfl)) (by kernel_rfl)) (fun j hj => by cases hj) ?_; simp only [List.map_cons, List.map_nil, List.getD_cons_succ, List.getD_cons_zero]; (refine wpG_l rfl (fun K hK => ?_); go_simp; refine hK _ ?_; clear hK K); (refine wpG_l rfl (fun K hK => ?_); go_simp; refine hK _ ?_; clear hK K); refine wpG_nil ?_; intro d0; have hx0 : Ext v (grow v d0) := ⟨d0, rfl⟩; generalize grow v d0 = y0 at *; (refine wpX_c rfl (fun t0 ht K hK => ?_); have hx0 := hx0.trans ht; go_simp; refine ⟨_, _, ⟨rfl, rfl⟩, ?_⟩; (with_reducible refine (N1 _).mono ?_); rintro e y1 ⟨r1, rfl, hr1, hz1⟩; have hx1 : Ext v y1 := hx0.trans hz1; refine ⟨_, rfl, hz1, hK _ _ ?_⟩; clear hK K); (refine wpX_c rfl (fun t1 ht K hK => ?_); have hx1 := hx1.trans ht; have hr1 := hr1.ext ht; go_simp; refine ⟨_, _, ⟨rfl, rfl⟩, ?_⟩; (with_reducible refine (CM _ _ (hx.trans hx1) hr1).mono ?_); rintro e y2 ⟨rfl, hz2⟩; have hx2 : Ext v y2 := hx1.trans hz2; have hr1 := hr1.ext hz2; refine ⟨_, rfl, hz2, hK _ _ ?_⟩; clear hK K); (refine wpX_v rfl (fun t2 ht K hK => ?_); have hx2 := hx2.trans ht; have hr1 := hr1.ext ht; go_simp; refine ⟨_, _, ⟨rfl, rfl⟩, Ext.refl _, hK _ _ ?_⟩; clear hK K); (refine wpX_v rfl (fun t2 ht K hK => ?_); have hx2 := hx2.trans ht; have hr1 := hr1.ext ht; go_simp; refine ⟨_, _, ⟨rfl, rfl⟩, Ext.refl _, hK _ _ ?_⟩; clear hK K); (first | (refine wpX_v ?_ (fun t2 ht K hK => ?_); (· (simp [go_sem, Region.wanted, yielded]; done)); have hx2 := hx2.trans ht; have hr1 := hr1.ext ht; go_simp; refine ⟨_, _, ⟨rfl, rfl⟩, Ext.refl _, hK _ _ ?_⟩; clear hK K) | (refine wpX_s ?_ (fun t2 ht => ?_); (· (simp [go_sem, Region.wanted, yielded]; done)); have hx2 := hx2.trans ht; have hr1 := hr1.ext ht)); (first | (refine wpX_v ?_ (fun t2 ht K hK => ?_); (· (simp [go_sem, Region.wanted, yielded]; done)); have hx2 := hx2.trans ht; have hr1 := hr1.ext ht; go_simp; refine ⟨_, _, ⟨rfl, rfl⟩, Ext.refl _, hK _ _ ?_⟩; clear hK K) | (refine wpX_s ?_ (fun t2 ht => ?_); (· (simp [go_sem, Region.wanted, yielded]; done)); have hx2 := hx2.trans ht; have hr1 := hr1.ext ht)); refine wpX_nil (fun y ht b hb => ?_); have hxv := hx2.trans ht; have hx := hx.trans hxv; have hr1 := hr1.ext ht; simp only [fill]; clear hb; replace BA := BA.ext hxv; clear lBA cBA fBA; clear hxv ht b; obtain ⟨v, rfl⟩ : ∃ v', v' = y := ⟨_, rfl⟩; have lBA := BA.lt; have cBA := BA.cell; have fBA := BA.frozen; refine wpAny_at ?_; refine wpAny_ph 8 12 [8] [9, 10, 11] [] (fun _ => .cells #[] 0) (by decide) (by kernel_rfl) (clo_first (Nat.le_of_ble_eq_true (by kernel_rfl)) (by kernel_rfl)) (fun j hj => by cases hj) ?_; simp only [List.map_cons, List.map_nil, List.getD_cons_succ, List.getD_cons_zero]; (first | (refine wpG_l ?_ (fun K hK => ?_); (· (simp [go_sem, Region.wanted, yielded]; done)); go_simp; refine hK _ ?_; clear hK K) | (refine wpG_s ?_ ?_; (· (simp [go_sem, Region.wanted, yielded]; done)))); refine wpG_nil ?_; intro d0; have hx2 : Ext v (grow v d0) := ⟨d0, rfl⟩; have hr1 := hr1.ext hx2; generalize grow v d0 = y2 at *; (first | (refine wpX_v ?_ (fun t2 ht K hK => ?_); (· (simp [go_sem, Region.wanted, yielded]; done)); have hx2 := hx2.trans ht; have hr1 := hr1.ext ht; go_simp; refine ⟨_, _, ⟨rfl, rfl⟩, Ext.refl _, hK _ _ ?_⟩; clear hK K) | (refine wpX_s ?_ (fun t2 ht => ?_); (· (simp [go_sem, Region.wanted, yielded]; done)); have hx2 := hx2.trans ht; have hr1 := hr1.ext ht)); (first | (refine wpX_v ?_ (fun t2 ht K hK => ?_); (· (simp [go_sem, Region.wanted, yielded]; done)); have hx2 := hx2.trans ht; have hr1 := hr1.ext ht; go_simp; refine ⟨_, _, ⟨rfl, rfl⟩, Ext.refl _, hK _ _ ?_⟩; clear hK K) | (refine wpX_s ?_ (fun t2 ht => ?_); (· (simp [go_sem, Region.wanted, yielded]; done)); have hx2 := hx2.trans ht; have hr1 := hr1.ext ht)); (refine wpX_v rfl (fun t2 ht K hK => ?_); have hx2 := hx2.trans ht; have hr1 := hr1.ext ht; go_simp; refine ⟨_, _, ⟨rfl, rfl⟩, Ext.refl _, hK _ _ ?_⟩; clear hK K); refine wpX_nil (fun y ht b hb => ?_); have hxv := hx2.trans ht; have hx := hx.trans hxv; have hr1 := hr1.ext ht; simp only [fill]; clear hb; replace BA := BA.ext hxv; clear lBA cBA fBA; clear hxv ht b; obtain ⟨v, rfl⟩ : ∃ v', v' = y := ⟨_, rfl⟩; have lBA := BA.lt; have cBA := BA.cell; have fBA := BA.frozen; refine wpAny_done (by kernel_rfl) ?_; simp only [List.drop_succ_cons, List.drop_zero, List.drop_nil]
  replace hc0 := hx.cell hc0
  go_wp2
  refine wp_loop_rounds 2 ?_
  rw [rounds_succ]
  go_wp2
  rw [rounds_succ]
  go_wp2
  exact bodyPost_ret (v := .tuple #[.int .i64 (g0 : Int), .bool true]) (by simp [results, Tryz.results38, go_sem]) rfl ⟨rfl, hx⟩
set_option maxHeartbeats 8000000 in
theorem smallR_5 (s : Bool) (a : Option Addr) (n c : Nat) (s' : Bool) (a' : Option Addr) (n' c' : Nat) (w : World)  (b o : Nat) (g0 : Nat) (hg0 : g0 < 65536) (hc0 : w.cell? ⟨b, o, none⟩ = some (i64 g0)) (g1 : Nat) (hg1 : g1 < 65536) (hc1 : w.cell? ⟨b, o + 1, none⟩ = some (i64 g1))
    (CM : ∀ v w', Ext w w' → BigV w' v 1 → Calls Tryz.prog 73 #[.agg (bigC s' a' n' c'), v] w' fun e w2 => e = .returned (.int .i64 0) ∧ Ext w' w2) : Calls Tryz.prog 38 #[(.agg #[.bool true, .slice (some ⟨b, o, none⟩) 2 c, .bool s', .slice a' n' c'])] w fun e w' => e = .returned (.tuple #[.int .i64 (-((g1 : Int) * 65536 + g0)), .bool true]) ∧ Ext w w' := by
  have hx : Ext w w := Ext.refl w
  have N1 : ∀ w, Calls Tryz.prog 57 #[.int .i64 1] w (RetB (fun W r => BigV W r 1) w) := fun w => bNum 1 (by decide) (by decide) w
  go_enter Tryz.func38, Tryz.ntmps38
  go_upto_region 1 with fail
  refine wp_rebase fun v hv => ?_
  have hxv : Ext w v := by rw [hv]; exact ext_auto
  have BA : Blk v w.heap.size #[.bool true, .slice (some ⟨b, o, none⟩) 2 c, .bool s', .slice a' n' c'] 44 := by rw [hv]; exact blk_auto
  clear hv
  replace hx := hxv
  have lBA := BA.lt; have cBA := BA.cell; have fBA := BA.frozen
  (first | refine wp_region_p (by kernel_rfl) ?_ | refine wp_region_p' (by kernel_rfl) ?_); refine wpAny_ph 0 8 [0, 1] [2, 3, 4, 5, 6, 7] [] (fun _ => .cells #[] 0) (by decide) (by kernel_rfl) (clo_first (Nat.le_of_ble_eq_true (by kernel_rfl)) (by kernel_rfl)) (fun j hj => by cases hj) ?_; simp only [List.map_cons, List.map_nil, List.getD_cons_succ, List.getD_cons_zero]; (refine wpG_l rfl (fun K hK => ?_); go_simp; refine hK _ ?_; clear hK K); (refine wpG_l rfl (fun K hK => ?_); go_simp; refine hK _ ?_; clear hK K); refine wpG_nil ?_; intro d0; have hx0 : Ext v (grow v d0) := ⟨d0, rfl⟩; generalize grow v d0 = y0 at *; (refine wpX_c rfl (fun t0 ht K hK => ?_); have hx0 := hx0.trans ht; go_simp; refine ⟨_, _, ⟨rfl, rfl⟩, ?_⟩; (with_reducible refine (N1 _).mono ?_); rintro e y1 ⟨r1, rfl, hr1, hz1⟩; have hx1 : Ext v y1 := hx0.trans hz1; refine ⟨_, rfl, hz1, hK _ _ ?_⟩; clear hK K); (refine wpX_c rfl (fun t1 ht K hK => ?_); have hx1 := hx1.trans ht; have hr1 := hr1.ext ht; go_simp; refine ⟨_, _, ⟨rfl, rfl⟩, ?_⟩; (with_reducible refine (CM _ _ (hx.trans hx1) hr1).mono ?_); rintro e y2 ⟨rfl, hz2⟩; have hx2 : Ext v y2 := hx1.trans hz2; have hr1 := hr1.ext hz2; refine ⟨_, rfl, hz2, hK _ _ ?_⟩; clear hK K); (refine wpX_v rfl (fun t2 ht K hK => ?_); have hx2 := hx2.trans ht; have hr1 := hr1.ext ht; go_simp; refine ⟨_, _, ⟨rfl, rfl⟩, Ext.refl _, hK _ _ ?_⟩; clear hK K); (refine wpX_v rfl (fun t2 ht K hK => ?_); have hx2 := hx2.trans ht; have hr1 := hr1.ext ht; go_simp; refine ⟨_, _, ⟨rfl, rfl⟩, Ext.refl _, hK _ _ ?_⟩; clear hK K); (first | (refine wpX_v ?_ (fun t2 ht K hK => ?_); (· (simp [go_sem, Region.wanted, yielded]; done)); have hx2 := hx2.trans ht; have hr1 := hr1.ext ht; go_simp; refine ⟨_, _, ⟨rfl, rfl⟩, Ext.refl _, hK _ _ ?_⟩; clear hK K) | (refine wpX_s ?_ (fun t2 ht => ?_); (· (simp [go_sem, Region.wanted, yielded]; done)); have hx2 := hx2.trans ht; have hr1 := hr1.ext ht)); (first | (refine wpX_v ?_ (fun t2 ht K hK => ?_); (· (simp [go_sem, Region.wanted, yielded]; done)); have hx2 := hx2.trans ht; have hr1 := hr1.ext ht; go_simp; refine ⟨_, _, ⟨rfl, rfl⟩, Ext.refl _, hK _ _ ?_⟩; clear hK K) | (refine wpX_s ?_ (fun t2 ht => ?_); (· (simp [go_sem, Region.wanted, yielded]; done)); have hx2 := hx2.trans ht; have hr1 := hr1.ext ht)); refine wpX_nil (fun y ht b hb => ?_); have hxv := hx2.trans ht; have hx := hx.trans hxv; have hr1 := hr1.ext ht; simp only [fill]; clear hb; replace BA := BA.ext hxv; clear lBA cBA fBA; clear hxv ht b; obtain ⟨v, rfl⟩ : ∃ v', v' = y := ⟨_, rfl⟩; have lBA := BA.lt; have cBA := BA.cell; have fBA := BA.frozen; refine wpAny_at ?_; refine wpAny_ph 8 12 [8] [9, 10, 11] [] (fun _ => .cells #[] 0) (by decide) (by kernel_rfl) (clo_first (Nat.le_of_ble_eq_true (by kernel_rfl)) (by kernel_rfl)) (fun j hj => by cases hj) ?_; simp only [List.map_cons, List.map_nil, List.getD_cons_succ, List.getD_cons_zero]; (first | (refine wpG_l ?_ (fun K hK => ?_); (· (simp [go_sem, Region.wanted, yielded]; done)); go_simp; refine hK _ ?_; clear hK K) | (refine wpG_s ?_ ?_; (· (simp [go_sem, Region.wanted, yielded]; done)))); refine wpG_nil ?_; intro d0; have hx2 : Ext v (grow v d0) := ⟨d0, rfl⟩; have hr1 := hr1.ext hx2; generalize grow v d0 = y2 at *; (first | (refine wpX_v ?_ (fun t2 ht K hK => ?_); (· (simp [go_sem, Region.wanted, yielded]; done)); have hx2 := hx2.trans ht; have hr1 := hr1.ext ht; go_simp; refine ⟨_, _, ⟨rfl, rfl⟩, Ext.refl _, hK _ _ ?_⟩; clear hK K) | (refine wpX_s ?_ (fun t2 ht => ?_); (· (simp [go_sem, Region.wanted, yielded]; done)); have hx2 := hx2.trans ht; have hr1 := hr1.ext ht)); (first | (refine wpX_v ?_ (fun t2 ht K hK => ?_); (· (simp [go_sem, Region.wanted, yielded]; done)); have hx2 := hx2.trans ht; have hr1 := hr1.ext ht; go_simp; refine ⟨_, _, ⟨rfl, rfl⟩, Ext.refl _, hK _ _ ?_⟩; clear hK K) | (refine wpX_s ?_ (fun t2 ht => ?_); (· (simp [go_sem, Region.wanted, yielded]; done)); have hx2 := hx2.trans ht; have hr1 := hr1.ext ht)); (refine wpX_v rfl (fun t2 ht K hK => ?_); have hx2 := hx2.trans ht; have hr1 := hr1.ext ht; go_simp; refine ⟨_, _, ⟨rfl, rfl⟩, Ext.refl _, hK _ _ ?_⟩; clear hK K); refine wpX_nil (fun y ht b hb => ?_); have hxv := hx2.trans ht; have hx := hx.trans hxv; have hr1 := hr1.ext ht; simp only [fill]; clear hb; replace BA := BA.ext hxv; clear lBA cBA fBA; clear hxv ht b; obtain ⟨v, rfl⟩ : ∃ v', v' = y := ⟨_, rfl⟩; have lBA := BA.lt; have cBA := BA.cell; have fBA := BA.frozen; refine wpAny_done (by kernel_rfl) ?_; simp only [List.drop_succ_cons, List.drop_zero, List.drop_nil]
  replace hc0 := hx.cell hc0
  replace hc1 := hx.cell hc1
  go_wp2
  refine wp_loop_rounds 3 ?_
  rw [rounds_succ]
  go_wp2
  rw [rounds_succ]
  go_wp2
  rw [rounds_succ]
  go_wp2
  exact bodyPost_ret (v := .tuple #[.int .i64 (-((g1 : Int) * 65536 + g0)), .bool true]) (by simp [results, Tryz.results38, go_sem]) rfl ⟨rfl, hx⟩
set_option maxHeartbeats 8000000 in
theorem smallR_6 (s : Bool) (a : Option Addr) (n c : Nat) (s' : Bool) (a' : Option Addr) (n' c' : Nat) (w : World)  (b o : Nat) (g0 : Nat) (hg0 : g0 < 65536) (hc0 : w.cell? ⟨b, o, none⟩ = some (i64 g0)) (g1 : Nat) (hg1 : g1 < 65536) (hc1 : w.cell? ⟨b, o + 1, none⟩ = some (i64 g1))
    (CM : ∀ v w', Ext w w' → BigV w' v 1 → Calls Tryz.prog 73 #[.agg (bigC s' a' n' c'), v] w' fun e w2 => e = .returned (.int .i64 0) ∧ Ext w' w2) : Calls Tryz.prog 38 #[(.agg #[.bool false, .slice (some ⟨b, o, none⟩) 2 c, .bool s', .slice a' n' c'])] w fun e w' => e = .returned (.tuple #[.int .i64 ((g1 : Int) * 65536 + g0), .bool true]) ∧ Ext w w' := by
  have hx : Ext w w := Ext.refl w
  have N1 : ∀ w, Calls Tryz.prog 57 #[.int .i64 1] w (RetB (fun W r => BigV W r 1) w) := fun w => bNum 1 (by decide) (by decide) w
  go_enter Tryz.func38, Tryz.ntmps38
  go_upto_region 1 with fail
  refine wp_rebase fun v hv => ?_
  have hxv : Ext w v := by rw [hv]; exact ext_auto
  have BA : Blk v w.heap.size #[.bool false, .slice (some ⟨b, o, none⟩) 2 c, .bool s', .slice a' n' c'] 44 := by rw [hv]; exact blk_auto
  clear hv
  replace hx := hxv
  have lBA := BA.lt; have cBA := BA.cell; have fBA := BA.frozen
  (first | refine wp_region_p (by kernel_rfl) ?_ | refine wp_region_p' (by kernel_rfl) ?_); refine wpAny_ph 0 8 [0, 1] [2, 3, 4, 5, 6, 7] [] (fun _ => .cells #[] 0) (by decide) (by kernel_rfl) (clo_first (Nat.le_of_ble_eq_true (by kernel_rfl)) (by kernel_rfl)) (fun j hj => by cases hj) ?_; simp only [List.map_cons, List.map_nil, List.getD_cons_succ, List.getD_cons_zero]; (refine wpG_l rfl (fun K hK => ?_); go_simp; refine hK _ ?_; clear hK K); (refine wpG_l rfl (fun K hK => ?_); go_simp; refine hK _ ?_; clear hK K); refine wpG_nil ?_; intro d0; have hx0 : Ext v (grow v d0) := ⟨d0, rfl⟩; generalize grow v d0 = y0 at *; (refine wpX_c rfl (fun t0 ht K hK => ?_); have hx0 := hx0.trans ht; go_simp; refine ⟨_, _, ⟨rfl, rfl⟩, ?_⟩; (with_reducible refine (N1 _).mono ?_); rintro e y1 ⟨r1, rfl, hr1, hz1⟩; have hx1 : Ext v y1 := hx0.trans hz1; refine ⟨_, rfl, hz1, hK _ _ ?_⟩; clear hK K); (refine wpX_c rfl (fun t1 ht K hK => ?_); have hx1 := hx1.trans ht; have hr1 := hr1.ext ht; go_simp; refine ⟨_, _, ⟨rfl, rfl⟩, ?_⟩; (with_reducible refine (CM _ _ (hx.trans hx1) hr1).mono ?_); rintro e y2 ⟨rfl, hz2⟩; have hx2 : Ext v y2 := hx1.trans hz2; have hr1 := hr1.ext hz2; refine ⟨_, rfl, hz2, hK _ _ ?_⟩; clear hK K); (refine wpX_v rfl (fun t2 ht K hK => ?_); have hx2 := hx2.trans ht; have hr1 := hr1.ext ht; go_simp; refine ⟨_, _, ⟨rfl, rfl⟩, Ext.refl _, hK _ _ ?_⟩; clear hK K); (refine wpX_v rfl (fun t2 ht K hK => ?_); have hx2 := hx2.trans ht; have hr1 := hr1.ext ht; go_simp; refine ⟨_, _, ⟨rfl, rfl⟩, Ext.refl _, hK _ _ ?_⟩; clear hK K); (first | (refine wpX_v ?_ (fun t2 ht K hK => ?_); (· (simp [go_sem, Region.wanted, yielded]; done)); have hx2 := hx2.trans ht; have hr1 := hr1.ext ht; go_simp; refine ⟨_, _, ⟨rfl, rfl⟩, Ext.refl _, hK _ _ ?_⟩; clear hK K) | (refine wpX_s ?_ (fun t2 ht => ?_); (· (simp [go_sem, Region.wanted, yielded]; done)); have hx2 := hx2.trans ht; have hr1 := hr1.ext ht)); (first | (refine wpX_v ?_ (fun t2 ht K hK => ?_); (· (simp [go_sem, Region.wanted, yielded]; done)); have hx2 := hx2.trans ht; have hr1 := hr1.ext ht; go_simp; refine ⟨_, _, ⟨rfl, rfl⟩, Ext.refl _, hK _ _ ?_⟩; clear hK K) | (refine wpX_s ?_ (fun t2 ht => ?_); (· (simp [go_sem, Region.wanted, yielded]; done)); have hx2 := hx2.trans ht; have hr1 := hr1.ext ht)); refine wpX_nil (fun y ht b hb => ?_); have hxv := hx2.trans ht; have hx := hx.trans hxv; have hr1 := hr1.ext ht; simp only [fill]; clear hb; replace BA := BA.ext hxv; clear lBA cBA fBA; clear hxv ht b; obtain ⟨v, rfl⟩ : ∃ v', v' = y := ⟨_, rfl⟩; have lBA := BA.lt; have cBA := BA.cell; have fBA := BA.frozen; refine wpAny_at ?_; refine wpAny_ph 8 12 [8] [9, 10, 11] [] (fun _ => .cells #[] 0) (by decide) (by kernel_rfl) (clo_first (Nat.le_of_ble_eq_true (by kernel_rfl)) (by kernel_rfl)) (fun j hj => by cases hj) ?_; simp only [List.map_cons, List.map_nil, List.getD_cons_succ, List.getD_cons_zero]; (first | (refine wpG_l ?_ (fun K hK => ?_); (· (simp [go_sem, Region.wanted, yielded]; done)); go_simp; refine hK _ ?_; clear hK K) | (refine wpG_s ?_ ?_; (· (simp [go_sem, Region.wanted, yielded]; done)))); refine wpG_nil ?_; intro d0; have hx2 : Ext v (grow v d0) := ⟨d0, rfl⟩; have hr1 := hr1.ext hx2; generalize grow v d0 = y2 at *; (first | (refine wpX_v ?_ (fun t2 ht K hK => ?_); (· (simp [go_sem, Region.wanted, yielded]; done)); have hx2 := hx2.trans ht; have hr1 := hr1.ext ht; go_simp; refine ⟨_, _, ⟨rfl, rfl⟩, Ext.refl _, hK _ _ ?_⟩; clear hK K) | (refine wpX_s ?_ (fun t2 ht => ?_); (· (simp [go_sem, Region.wanted, yielded]; done)); have hx2 := hx2.trans ht; have hr1 := hr1.ext ht)); (first | (refine wpX_v ?_ (fun t2 ht K hK => ?_); (· (simp [go_sem, Region.wanted, yielded]; done)); have hx2 := hx2.trans ht; have hr1 := hr1.ext ht; go_simp; refine ⟨_, _, ⟨rfl, rfl⟩, Ext.refl _, hK _ _ ?_⟩; clear hK K) | (refine wpX_s ?_ (fun t2 ht => ?_); (· (simp [go_sem, Region.wanted, yielded]; done)); have hx2 := hx2.trans ht; have hr1 := hr1.ext ht)); (refine wpX_v rfl (fun t2 ht K hK => ?_); have hx2 := hx2.trans ht; have hr1 := hr1.ext ht; go_simp; refine ⟨_, _, ⟨rfl, rfl⟩, Ext.refl _, hK _ _ ?_⟩; clear hK K); refine wpX_nil (fun y ht b hb => ?_); have hxv := hx2.trans ht; have hx := hx.trans hxv; have hr1 := hr1.ext ht; simp only [fill]; clear hb; replace BA := BA.ext hxv; clear lBA cBA fBA; clear hxv ht b; obtain ⟨v, rfl⟩ : ∃ v', v' = y := ⟨_, rfl⟩; have lBA := BA.lt; have cBA := BA.cell; have fBA := BA.frozen; refine wpAny_done (by kernel_rfl) ?_; simp only [List.drop_succ_cons, List.drop_zero, List.drop_nil]
  replace hc0 := hx.cell hc0
  replace hc1 := hx.cell hc1
  go_wp2
  refine wp_loop_rounds 3 ?_
  rw [rounds_succ]
  go_wp2
  rw [rounds_succ]
  go_wp2
  rw [rounds_succ]
  go_wp2
  exact bodyPost_ret (v := .tuple #[.int .i64 ((g1 : Int) * 65536 + g0), .bool true]) (by simp [results, Tryz.results38, go_sem]) rfl ⟨rfl, hx⟩
end Go.Proofs.YtmopgcbhmkemjaaGreatDoor

namespace Go.Proofs.YtmopgcbhmkemjaaGreatDoor
open Go Go.RowKit
set_option linter.unusedSimpArgs false
set_option linter.unusedVariables false
set_option maxRecDepth 100000
set_option exponentiation.threshold 3000

theorem run_eq_nd (x y x' y' : Int) (w : World) :
    (Op.equalIn 10000 23 (ndV x y) (ndV x' y')).run Tryz.prog w = .ok ((x == x') && (y == y')) w := by
  rw [run_equalIn_struct (P := Tryz.prog) w 9999 23 _ _ (by kernel_rfl) (by kernel_rfl)]
  rw [show (Tryz.prog.fieldsOf 23).toList = [⟨"X", 2, 0, false, "", "", 0⟩, ⟨"Y", 2, 1, false, "", "", 8⟩] by kernel_rfl]
  rw [run_eqFields_cons _ _ _ _ _ (.int .i64 x) (.int .i64 x') (x == x') w (by decide) (by kernel_rfl) (by kernel_rfl) (run_equalIn_int (P := Tryz.prog) w 9998 _ _ _ _ _ Tryz.underlying2)]
  rw [run_eqFields_cons _ _ _ _ _ (.int .i64 y) (.int .i64 y') (y == y') w (by decide) (by kernel_rfl) (by kernel_rfl) (run_equalIn_int (P := Tryz.prog) w 9998 _ _ _ _ _ Tryz.underlying2)]
  cases h1 : (x == x') <;> cases h2 : (y == y') <;> simp [Op.eqFields]
theorem eqT_nd (x y : Int) : EqT 23 (ndV x y) (ndV x y) := fun w => by rw [run_eq_nd]; simp
theorem lOf_word (z : Int) (h1 : -9223372036854775808 ≤ z) (h2 : z ≤ 9223372036854775807) (w : World) :
    Calls Tryz.prog 68 #[.int .i64 z] w fun e w' => e = .returned (intV (decide (z < 0)) z.natAbs) ∧ Ext w w' := by
  by_cases h : z < 0
  · obtain ⟨k, rfl⟩ : ∃ k : Nat, z = -(k : Int) := ⟨z.natAbs, by omega⟩
    have e : decide (-(k : Int) < 0) = true := by simpa using h
    rw [e, Int.natAbs_neg, Int.natAbs_natCast]
    exact Of_neg k (by omega) (by omega) w
  · obtain ⟨k, rfl⟩ : ∃ k : Nat, z = (k : Int) := ⟨z.toNat, by omega⟩
    have e : decide ((k : Int) < 0) = false := by simp
    rw [e, Int.natAbs_natCast]
    exact Of_nat k (by omega) w
set_option maxHeartbeats 8000000 in
theorem limbSmall_p1 (m : Nat) (hm : m < B4) (CK : ∀ w, Calls Tryz.prog 69 #[intV false m] w fun e w' => e = .returned (.int .i64 2) ∧ Ext w w') (w : World) :
    Calls Tryz.prog 34 #[intV false m] w fun e w' => e = .returned (.tuple #[.int .i64 0, .bool false]) ∧ Ext w w' := by
  have hx : Ext w w := Ext.refl w
  go_enter Tryz.func34, Tryz.ntmps34
  go_upto_region 5 with fail
  refine wp_rebase fun v hv => ?_
  replace hx : Ext w v := by rw [hv]; exact ext_auto
  have BA : Blk v w.heap.size #[.bool false, q64 (wn m 0), q64 (wn m 1), q64 (wn m 2), q64 (wn m 3)] 27 := by rw [hv]; exact blk_auto
  clear hv
  have lBA := BA.lt; have cBA := BA.cell; have fBA := BA.frozen
  (first | refine wp_region_p (by kernel_rfl) ?_ | refine wp_region_p' (by kernel_rfl) ?_); refine wpAny_ph 0 4 [0] [1, 2, 3] [] (fun _ => .cells #[] 0) (by decide) (by kernel_rfl) (clo_first (Nat.le_of_ble_eq_true (by kernel_rfl)) (by kernel_rfl)) (fun j hj => by cases hj) ?_; simp only [List.map_cons, List.map_nil, List.getD_cons_succ, List.getD_cons_zero]; (refine wpG_l rfl (fun K hK => ?_); go_simp; refine hK _ ?_; clear hK K); refine wpG_nil ?_; intro d0; have hx0 : Ext v (grow v d0) := ⟨d0, rfl⟩; generalize grow v d0 = y0 at *; (refine wpX_c rfl (fun t0 ht K hK => ?_); have hx0 := hx0.trans ht; go_simp; refine ⟨_, _, ⟨rfl, rfl⟩, ?_⟩; (with_reducible refine (CK _).mono ?_); rintro e y1 ⟨rfl, hz1⟩; have hx1 : Ext v y1 := hx0.trans hz1; refine ⟨_, rfl, hz1, hK _ _ ?_⟩; clear hK K); (refine wpX_v rfl (fun t1 ht K hK => ?_); have hx1 := hx1.trans ht; go_simp; refine ⟨_, _, ⟨rfl, rfl⟩, Ext.refl _, hK _ _ ?_⟩; clear hK K); (refine wpX_v rfl (fun t1 ht K hK => ?_); have hx1 := hx1.trans ht; go_simp; refine ⟨_, _, ⟨rfl, rfl⟩, Ext.refl _, hK _ _ ?_⟩; clear hK K); refine wpX_nil (fun y ht b hb => ?_); have hxv := hx1.trans ht; have hx := hx.trans hxv; simp only [fill]; clear hb; replace BA := BA.ext hxv; clear lBA cBA fBA; clear hxv ht b; obtain ⟨v, rfl⟩ : ∃ v', v' = y := ⟨_, rfl⟩; have lBA := BA.lt; have cBA := BA.cell; have fBA := BA.frozen; refine wpAny_at ?_; refine wpAny_ph 4 9 [4, 6] [5, 7, 8] [] (fun _ => .cells #[] 0) (by decide) (by kernel_rfl) (clo_first (Nat.le_of_ble_eq_true (by kernel_rfl)) (by kernel_rfl)) (fun j hj => by cases hj) ?_; simp only [List.map_cons, List.map_nil, List.getD_cons_succ, List.getD_cons_zero]; (first | (refine wpG_l ?_ (fun K hK => ?_); (· (simp [go_sem, Region.wanted, yielded]; done)); go_simp; refine hK _ ?_; clear hK K) | (refine wpG_s ?_ ?_; (· (simp [go_sem, Region.wanted, yielded]; done)))); (first | (refine wpG_l ?_ (fun K hK => ?_); (· (simp [go_sem, Region.wanted, yielded]; done)); go_simp; refine hK _ ?_; clear hK K) | (refine wpG_s ?_ ?_; (· (simp [go_sem, Region.wanted, yielded]; done)))); refine wpG_nil ?_; intro d0; have hx1 : Ext v (grow v d0) := ⟨d0, rfl⟩; generalize grow v d0 = y1 at *; (refine wpX_s (by simp [go_sem, Region.wanted, yielded]; done) (fun t1 ht => ?_); have hx1 := hx1.trans ht; have hx2 := hx1); have hz2 := ht; obtain ⟨y2, rfl⟩ : ∃ y', y' = t1 := ⟨_, rfl⟩; (first | (refine wpX_v ?_ (fun t2 ht K hK => ?_); (· (simp [go_sem, Region.wanted, yielded]; done)); have hx2 := hx2.trans ht; go_simp; refine ⟨_, _, ⟨rfl, rfl⟩, Ext.refl _, hK _ _ ?_⟩; clear hK K) | (refine wpX_s ?_ (fun t2 ht => ?_); (· (simp [go_sem, Region.wanted, yielded]; done)); have hx2 := hx2.trans ht)); (refine wpX_v rfl (fun t2 ht K hK => ?_); have hx2 := hx2.trans ht; go_simp; refine ⟨_, _, ⟨rfl, rfl⟩, Ext.refl _, hK _ _ ?_⟩; clear hK K); refine wpX_nil (fun y ht b hb => ?_); have hxv := hx2.trans ht; have hx := hx.trans hxv; simp only [fill]; clear hb; replace BA := BA.ext hxv; clear lBA cBA fBA; clear hxv ht b; obtain ⟨v, rfl⟩ : ∃ v', v' = y := ⟨_, rfl⟩; have lBA := BA.lt; have cBA := BA.cell; have fBA := BA.frozen; refine wpAny_done (by kernel_rfl) ?_; simp only [List.drop_succ_cons, List.drop_zero, List.drop_nil]
  go_wp2
  exact bodyPost_ret (v := .tuple #[.int .i64 0, .bool false]) (by simp [results, Tryz.results34, go_sem]) rfl ⟨rfl, hx⟩
set_option maxHeartbeats 8000000 in
theorem limbSmall_p2 (m : Nat) (hm : m < B4) (CK : ∀ w, Calls Tryz.prog 69 #[intV false m] w fun e w' => e = .returned (.int .i64 0) ∧ Ext w w')
    (os : Bool) (om : Nat) (hom : om < B4) (hne : ¬ (os = false ∧ om = m)) (OF : ∀ w, Calls Tryz.prog 68 #[.int .i64 (wrap64 ((wn m 0 : Nat) : Int))] w fun e w' => e = .returned (intV os om) ∧ Ext w w') (w : World) :
    Calls Tryz.prog 34 #[intV false m] w fun e w' => e = .returned (.tuple #[.int .i64 0, .bool false]) ∧ Ext w w' := by
  have hx : Ext w w := Ext.refl w
  have EQ : ∀ w, (Op.equalIn 10000 27 (intV os om) (intV false m)).run Tryz.prog w = .ok false w := fun w => by rw [run_eq_int os om false m hom hm w, decide_eq_false hne]
  clear hne
  go_enter Tryz.func34, Tryz.ntmps34
  go_upto_region 5 with fail
  refine wp_rebase fun v hv => ?_
  replace hx : Ext w v := by rw [hv]; exact ext_auto
  have BA : Blk v w.heap.size #[.bool false, q64 (wn m 0), q64 (wn m 1), q64 (wn m 2), q64 (wn m 3)] 27 := by rw [hv]; exact blk_auto
  clear hv
  have lBA := BA.lt; have cBA := BA.cell; have fBA := BA.frozen
  (first | refine wp_region_p (by kernel_rfl) ?_ | refine wp_region_p' (by kernel_rfl) ?_); refine wpAny_ph 0 4 [0] [1, 2, 3] [] (fun _ => .cells #[] 0) (by decide) (by kernel_rfl) (clo_first (Nat.le_of_ble_eq_true (by kernel_rfl)) (by kernel_rfl)) (fun j hj => by cases hj) ?_; simp only [List.map_cons, List.map_nil, List.getD_cons_succ, List.getD_cons_zero]; (refine wpG_l rfl (fun K hK => ?_); go_simp; refine hK _ ?_; clear hK K); refine wpG_nil ?_; intro d0; have hx0 : Ext v (grow v d0) := ⟨d0, rfl⟩; generalize grow v d0 = y0 at *; (refine wpX_c rfl (fun t0 ht K hK => ?_); have hx0 := hx0.trans ht; go_simp; refine ⟨_, _, ⟨rfl, rfl⟩, ?_⟩; (with_reducible refine (CK _).mono ?_); rintro e y1 ⟨rfl, hz1⟩; have hx1 : Ext v y1 := hx0.trans hz1; refine ⟨_, rfl, hz1, hK _ _ ?_⟩; clear hK K); (refine wpX_v rfl (fun t1 ht K hK => ?_); have hx1 := hx1.trans ht; go_simp; refine ⟨_, _, ⟨rfl, rfl⟩, Ext.refl _, hK _ _ ?_⟩; clear hK K); (refine wpX_v rfl (fun t1 ht K hK => ?_); have hx1 := hx1.trans ht; go_simp; refine ⟨_, _, ⟨rfl, rfl⟩, Ext.refl _, hK _ _ ?_⟩; clear hK K); refine wpX_nil (fun y ht b hb => ?_); have hxv := hx1.trans ht; have hx := hx.trans hxv; simp only [fill]; clear hb; replace BA := BA.ext hxv; clear lBA cBA fBA; clear hxv ht b; obtain ⟨v, rfl⟩ : ∃ v', v' = y := ⟨_, rfl⟩; have lBA := BA.lt; have cBA := BA.cell; have fBA := BA.frozen; refine wpAny_at ?_; refine wpAny_ph 4 9 [4, 6] [5, 7, 8] [] (fun _ => .cells #[] 0) (by decide) (by kernel_rfl) (clo_first (Nat.le_of_ble_eq_true (by kernel_rfl)) (by kernel_rfl)) (fun j hj => by cases hj) ?_; simp only [List.map_cons, List.map_nil, List.getD_cons_succ, List.getD_cons_zero]; (first | (refine wpG_l ?_ (fun K hK => ?_); (· (simp [go_sem, Region.wanted, yielded]; done)); go_simp; refine hK _ ?_; clear hK K) | (refine wpG_s ?_ ?_; (· (simp [go_sem, Region.wanted, yielded]; done)))); (first | (refine wpG_l ?_ (fun K hK => ?_); (· (simp [go_sem, Region.wanted, yielded]; done)); go_simp; refine hK _ ?_; clear hK K) | (refine wpG_s ?_ ?_; (· (simp [go_sem, Region.wanted, yielded]; done)))); refine wpG_nil ?_; intro d0; have hx1 : Ext v (grow v d0) := ⟨d0, rfl⟩; generalize grow v d0 = y1 at *; (refine wpX_c ?_ (fun t1 ht K hK => ?_); (· (simp [go_sem, Region.wanted, yielded]; done)); have hx1 := hx1.trans ht; go_simp; refine ⟨_, _, ⟨rfl, rfl⟩, ?_⟩; (with_reducible refine (OF _).mono ?_); rintro e y2 ⟨rfl, hz2⟩; have hx2 : Ext v y2 := hx1.trans hz2; refine ⟨_, rfl, hz2, hK _ _ ?_⟩; clear hK K); (first | (refine wpX_v ?_ (fun t2 ht K hK => ?_); (· (simp [go_sem, Region.wanted, yielded]; done)); have hx2 := hx2.trans ht; go_simp; refine ⟨_, _, ⟨rfl, rfl⟩, Ext.refl _, hK _ _ ?_⟩; clear hK K) | (refine wpX_s ?_ (fun t2 ht => ?_); (· (simp [go_sem, Region.wanted, yielded]; done)); have hx2 := hx2.trans ht)); (refine wpX_v rfl (fun t2 ht K hK => ?_); have hx2 := hx2.trans ht; go_simp; refine ⟨_, _, ⟨rfl, rfl⟩, Ext.refl _, hK _ _ ?_⟩; clear hK K); refine wpX_nil (fun y ht b hb => ?_); have hxv := hx2.trans ht; have hx := hx.trans hxv; simp only [fill]; clear hb; replace BA := BA.ext hxv; clear lBA cBA fBA; clear hxv ht b; obtain ⟨v, rfl⟩ : ∃ v', v' = y := ⟨_, rfl⟩; have lBA := BA.lt; have cBA := BA.cell; have fBA := BA.frozen; refine wpAny_done (by kernel_rfl) ?_; simp only [List.drop_succ_cons, List.drop_zero, List.drop_nil]
  go_wp2
  exact bodyPost_ret (v := .tuple #[.int .i64 0, .bool false]) (by simp [results, Tryz.results34, go_sem]) rfl ⟨rfl, hx⟩
set_option maxHeartbeats 8000000 in
theorem limbSmall_p3 (m : Nat) (hm : m < B4) (CK : ∀ w, Calls Tryz.prog 69 #[intV false m] w fun e w' => e = .returned (.int .i64 0) ∧ Ext w w')
    (OF : ∀ w, Calls Tryz.prog 68 #[.int .i64 (wrap64 ((wn m 0 : Nat) : Int))] w fun e w' => e = .returned (intV false m) ∧ Ext w w') (w : World) :
    Calls Tryz.prog 34 #[intV false m] w fun e w' => e = .returned (.tuple #[.int .i64 (wrap64 ((wn m 0 : Nat) : Int)), .bool true]) ∧ Ext w w' := by
  have hx : Ext w w := Ext.refl w
  have EQ : ∀ w, (Op.equalIn 10000 27 (intV false m) (intV false m)).run Tryz.prog w = .ok true w := fun w => by rw [run_eq_int false m false m hm hm w]; simp
  go_enter Tryz.func34, Tryz.ntmps34
  go_upto_region 5 with fail
  refine wp_rebase fun v hv => ?_
  replace hx : Ext w v := by rw [hv]; exact ext_auto
  have BA : Blk v w.heap.size #[.bool false, q64 (wn m 0), q64 (wn m 1), q64 (wn m 2), q64 (wn m 3)] 27 := by rw [hv]; exact blk_auto
  clear hv
  have lBA := BA.lt; have cBA := BA.cell; have fBA := BA.frozen
  (first | refine wp_region_p (by kernel_rfl) ?_ | refine wp_region_p' (by kernel_rfl) ?_); refine wpAny_ph 0 4 [0] [1, 2, 3] [] (fun _ => .cells #[] 0) (by decide) (by kernel_rfl) (clo_first (Nat.le_of_ble_eq_true (by kernel_rfl)) (by kernel_rfl)) (fun j hj => by cases hj) ?_; simp only [List.map_cons, List.map_nil, List.getD_cons_succ, List.getD_cons_zero]; (refine wpG_l rfl (fun K hK => ?_); go_simp; refine hK _ ?_; clear hK K); refine wpG_nil ?_; intro d0; have hx0 : Ext v (grow v d0) := ⟨d0, rfl⟩; generalize grow v d0 = y0 at *; (refine wpX_c rfl (fun t0 ht K hK => ?_); have hx0 := hx0.trans ht; go_simp; refine ⟨_, _, ⟨rfl, rfl⟩, ?_⟩; (with_reducible refine (CK _).mono ?_); rintro e y1 ⟨rfl, hz1⟩; have hx1 : Ext v y1 := hx0.trans hz1; refine ⟨_, rfl, hz1, hK _ _ ?_⟩; clear hK K); (refine wpX_v rfl (fun t1 ht K hK => ?_); have hx1 := hx1.trans ht; go_simp; refine ⟨_, _, ⟨rfl, rfl⟩, Ext.refl _, hK _ _ ?_⟩; clear hK K); (refine wpX_v rfl (fun t1 ht K hK => ?_); have hx1 := hx1.trans ht; go_simp; refine ⟨_, _, ⟨rfl, rfl⟩, Ext.refl _, hK _ _ ?_⟩; clear hK K); refine wpX_nil (fun y ht b hb => ?_); have hxv := hx1.trans ht; have hx := hx.trans hxv; simp only [fill]; clear hb; replace BA := BA.ext hxv; clear lBA cBA fBA; clear hxv ht b; obtain ⟨v, rfl⟩ : ∃ v', v' = y := ⟨_, rfl⟩; have lBA := BA.lt; have cBA := BA.cell; have fBA := BA.frozen; refine wpAny_at ?_; refine wpAny_ph 4 9 [4, 6] [5, 7, 8] [] (fun _ => .cells #[] 0) (by decide) (by kernel_rfl) (clo_first (Nat.le_of_ble_eq_true (by kernel_rfl)) (by kernel_rfl)) (fun j hj => by cases hj) ?_; simp only [List.map_cons, List.map_nil, List.getD_cons_succ, List.getD_cons_zero]; (first | (refine wpG_l ?_ (fun K hK => ?_); (· (simp [go_sem, Region.wanted, yielded]; done)); go_simp; refine hK _ ?_; clear hK K) | (refine wpG_s ?_ ?_; (· (simp [go_sem, Region.wanted, yielded]; done)))); (first | (refine wpG_l ?_ (fun K hK => ?_); (· (simp [go_sem, Region.wanted, yielded]; done)); go_simp; refine hK _ ?_; clear hK K) | (refine wpG_s ?_ ?_; (· (simp [go_sem, Region.wanted, yielded]; done)))); refine wpG_nil ?_; intro d0; have hx1 : Ext v (grow v d0) := ⟨d0, rfl⟩; generalize grow v d0 = y1 at *; (refine wpX_c ?_ (fun t1 ht K hK => ?_); (· (simp [go_sem, Region.wanted, yielded]; done)); have hx1 := hx1.trans ht; go_simp; refine ⟨_, _, ⟨rfl, rfl⟩, ?_⟩; (with_reducible refine (OF _).mono ?_); rintro e y2 ⟨rfl, hz2⟩; have hx2 : Ext v y2 := hx1.trans hz2; refine ⟨_, rfl, hz2, hK _ _ ?_⟩; clear hK K); (first | (refine wpX_v ?_ (fun t2 ht K hK => ?_); (· (simp [go_sem, Region.wanted, yielded]; done)); have hx2 := hx2.trans ht; go_simp; refine ⟨_, _, ⟨rfl, rfl⟩, Ext.refl _, hK _ _ ?_⟩; clear hK K) | (refine wpX_s ?_ (fun t2 ht => ?_); (· (simp [go_sem, Region.wanted, yielded]; done)); have hx2 := hx2.trans ht)); (refine wpX_v rfl (fun t2 ht K hK => ?_); have hx2 := hx2.trans ht; go_simp; refine ⟨_, _, ⟨rfl, rfl⟩, Ext.refl _, hK _ _ ?_⟩; clear hK K); refine wpX_nil (fun y ht b hb => ?_); have hxv := hx2.trans ht; have hx := hx.trans hxv; simp only [fill]; clear hb; replace BA := BA.ext hxv; clear lBA cBA fBA; clear hxv ht b; obtain ⟨v, rfl⟩ : ∃ v', v' = y := ⟨_, rfl⟩; have lBA := BA.lt; have cBA := BA.cell; have fBA := BA.frozen; refine wpAny_done (by kernel_rfl) ?_; simp only [List.drop_succ_cons, List.drop_zero, List.drop_nil]
  go_wp2
  exact bodyPost_ret (v := .tuple #[.int .i64 (wrap64 ((wn m 0 : Nat) : Int)), .bool true]) (by simp [results, Tryz.results34, go_sem]) rfl ⟨rfl, hx⟩
set_option maxHeartbeats 8000000 in
theorem limbSmall_n1 (m : Nat) (hm : m < B4) (CK : ∀ w, Calls Tryz.prog 69 #[intV true m] w fun e w' => e = .returned (.int .i64 2) ∧ Ext w w') (w : World) :
    Calls Tryz.prog 34 #[intV true m] w fun e w' => e = .returned (.tuple #[.int .i64 0, .bool false]) ∧ Ext w w' := by
  have hx : Ext w w := Ext.refl w
  go_enter Tryz.func34, Tryz.ntmps34
  go_upto_region 5 with fail
  refine wp_rebase fun v hv => ?_
  replace hx : Ext w v := by rw [hv]; exact ext_auto
  have BA : Blk v w.heap.size #[.bool true, q64 (wn m 0), q64 (wn m 1), q64 (wn m 2), q64 (wn m 3)] 27 := by rw [hv]; exact blk_auto
  clear hv
  have lBA := BA.lt; have cBA := BA.cell; have fBA := BA.frozen
  (first | refine wp_region_p (by kernel_rfl) ?_ | refine wp_region_p' (by kernel_rfl) ?_); refine wpAny_ph 0 4 [0] [1, 2, 3] [] (fun _ => .cells #[] 0) (by decide) (by kernel_rfl) (clo_first (Nat.le_of_ble_eq_true (by kernel_rfl)) (by kernel_rfl)) (fun j hj => by cases hj) ?_; simp only [List.map_cons, List.map_nil, List.getD_cons_succ, List.getD_cons_zero]; (refine wpG_l rfl (fun K hK => ?_); go_simp; refine hK _ ?_; clear hK K); refine wpG_nil ?_; intro d0; have hx0 : Ext v (grow v d0) := ⟨d0, rfl⟩; generalize grow v d0 = y0 at *; (refine wpX_c rfl (fun t0 ht K hK => ?_); have hx0 := hx0.trans ht; go_simp; refine ⟨_, _, ⟨rfl, rfl⟩, ?_⟩; (with_reducible refine (CK _).mono ?_); rintro e y1 ⟨rfl, hz1⟩; have hx1 : Ext v y1 := hx0.trans hz1; refine ⟨_, rfl, hz1, hK _ _ ?_⟩; clear hK K); (refine wpX_v rfl (fun t1 ht K hK => ?_); have hx1 := hx1.trans ht; go_simp; refine ⟨_, _, ⟨rfl, rfl⟩, Ext.refl _, hK _ _ ?_⟩; clear hK K); (refine wpX_v rfl (fun t1 ht K hK => ?_); have hx1 := hx1.trans ht; go_simp; refine ⟨_, _, ⟨rfl, rfl⟩, Ext.refl _, hK _ _ ?_⟩; clear hK K); refine wpX_nil (fun y ht b hb => ?_); have hxv := hx1.trans ht; have hx := hx.trans hxv; simp only [fill]; clear hb; replace BA := BA.ext hxv; clear lBA cBA fBA; clear hxv ht b; obtain ⟨v, rfl⟩ : ∃ v', v' = y := ⟨_, rfl⟩; have lBA := BA.lt; have cBA := BA.cell; have fBA := BA.frozen; refine wpAny_at ?_; refine wpAny_ph 4 9 [4, 6] [5, 7, 8] [] (fun _ => .cells #[] 0) (by decide) (by kernel_rfl) (clo_first (Nat.le_of_ble_eq_true (by kernel_rfl)) (by kernel_rfl)) (fun j hj => by cases hj) ?_; simp only [List.map_cons, List.map_nil, List.getD_cons_succ, List.getD_cons_zero]; (first | (refine wpG_l ?_ (fun K hK => ?_); (· (simp [go_sem, Region.wanted, yielded]; done)); go_simp; refine hK _ ?_; clear hK K) | (refine wpG_s ?_ ?_; (· (simp [go_sem, Region.wanted, yielded]; done)))); (first | (refine wpG_l ?_ (fun K hK => ?_); (· (simp [go_sem, Region.wanted, yielded]; done)); go_simp; refine hK _ ?_; clear hK K) | (refine wpG_s ?_ ?_; (· (simp [go_sem, Region.wanted, yielded]; done)))); refine wpG_nil ?_; intro d0; have hx1 : Ext v (grow v d0) := ⟨d0, rfl⟩; generalize grow v d0 = y1 at *; (refine wpX_s (by simp [go_sem, Region.wanted, yielded]; done) (fun t1 ht => ?_); have hx1 := hx1.trans ht; have hx2 := hx1); have hz2 := ht; obtain ⟨y2, rfl⟩ : ∃ y', y' = t1 := ⟨_, rfl⟩; (first | (refine wpX_v ?_ (fun t2 ht K hK => ?_); (· (simp [go_sem, Region.wanted, yielded]; done)); have hx2 := hx2.trans ht; go_simp; refine ⟨_, _, ⟨rfl, rfl⟩, Ext.refl _, hK _ _ ?_⟩; clear hK K) | (refine wpX_s ?_ (fun t2 ht => ?_); (· (simp [go_sem, Region.wanted, yielded]; done)); have hx2 := hx2.trans ht)); (refine wpX_v rfl (fun t2 ht K hK => ?_); have hx2 := hx2.trans ht; go_simp; refine ⟨_, _, ⟨rfl, rfl⟩, Ext.refl _, hK _ _ ?_⟩; clear hK K); refine wpX_nil (fun y ht b hb => ?_); have hxv := hx2.trans ht; have hx := hx.trans hxv; simp only [fill]; clear hb; replace BA := BA.ext hxv; clear lBA cBA fBA; clear hxv ht b; obtain ⟨v, rfl⟩ : ∃ v', v' = y := ⟨_, rfl⟩; have lBA := BA.lt; have cBA := BA.cell; have fBA := BA.frozen; refine wpAny_done (by kernel_rfl) ?_; simp only [List.drop_succ_cons, List.drop_zero, List.drop_nil]
  go_wp2
  exact bodyPost_ret (v := .tuple #[.int .i64 0, .bool false]) (by simp [results, Tryz.results34, go_sem]) rfl ⟨rfl, hx⟩
set_option maxHeartbeats 8000000 in
theorem limbSmall_n2 (m : Nat) (hm : m < B4) (CK : ∀ w, Calls Tryz.prog 69 #[intV true m] w fun e w' => e = .returned (.int .i64 0) ∧ Ext w w')
    (os : Bool) (om : Nat) (hom : om < B4) (hne : ¬ (os = true ∧ om = m)) (OF : ∀ w, Calls Tryz.prog 68 #[.int .i64 (wrap64 (-(wrap64 ((wn m 0 : Nat) : Int))))] w fun e w' => e = .returned (intV os om) ∧ Ext w w') (w : World) :
    Calls Tryz.prog 34 #[intV true m] w fun e w' => e = .returned (.tuple #[.int .i64 0, .bool false]) ∧ Ext w w' := by
  have hx : Ext w w := Ext.refl w
  have EQ : ∀ w, (Op.equalIn 10000 27 (intV os om) (intV true m)).run Tryz.prog w = .ok false w := fun w => by rw [run_eq_int os om true m hom hm w, decide_eq_false hne]
  clear hne
  go_enter Tryz.func34, Tryz.ntmps34
  go_upto_region 5 with fail
  refine wp_rebase fun v hv => ?_
  replace hx : Ext w v := by rw [hv]; exact ext_auto
  have BA : Blk v w.heap.size #[.bool true, q64 (wn m 0), q64 (wn m 1), q64 (wn m 2), q64 (wn m 3)] 27 := by rw [hv]; exact blk_auto
  clear hv
  have lBA := BA.lt; have cBA := BA.cell; have fBA := BA.frozen
  (first | refine wp_region_p (by kernel_rfl) ?_ | refine wp_region_p' (by kernel_rfl) ?_); refine wpAny_ph 0 4 [0] [1, 2, 3] [] (fun _ => .cells #[] 0) (by decide) (by kernel_rfl) (clo_first (Nat.le_of_ble_eq_true (by kernel_rfl)) (by kernel_rfl)) (fun j hj => by cases hj) ?_; simp only [List.map_cons, List.map_nil, List.getD_cons_succ, List.getD_cons_zero]; (refine wpG_l rfl (fun K hK => ?_); go_simp; refine hK _ ?_; clear hK K); refine wpG_nil ?_; intro d0; have hx0 : Ext v (grow v d0) := ⟨d0, rfl⟩; generalize grow v d0 = y0 at *; (refine wpX_c rfl (fun t0 ht K hK => ?_); have hx0 := hx0.trans ht; go_simp; refine ⟨_, _, ⟨rfl, rfl⟩, ?_⟩; (with_reducible refine (CK _).mono ?_); rintro e y1 ⟨rfl, hz1⟩; have hx1 : Ext v y1 := hx0.trans hz1; refine ⟨_, rfl, hz1, hK _ _ ?_⟩; clear hK K); (refine wpX_v rfl (fun t1 ht K hK => ?_); have hx1 := hx1.trans ht; go_simp; refine ⟨_, _, ⟨rfl, rfl⟩, Ext.refl _, hK _ _ ?_⟩; clear hK K); (refine wpX_v rfl (fun t1 ht K hK => ?_); have hx1 := hx1.trans ht; go_simp; refine ⟨_, _, ⟨rfl, rfl⟩, Ext.refl _, hK _ _ ?_⟩; clear hK K); refine wpX_nil (fun y ht b hb => ?_); have hxv := hx1.trans ht; have hx := hx.trans hxv; simp only [fill]; clear hb; replace BA := BA.ext hxv; clear lBA cBA fBA; clear hxv ht b; obtain ⟨v, rfl⟩ : ∃ v', v' = y := ⟨_, rfl⟩; have lBA := BA.lt; have cBA := BA.cell; have fBA := BA.frozen; refine wpAny_at ?_; refine wpAny_ph 4 9 [4, 6] [5, 7, 8] [] (fun _ => .cells #[] 0) (by decide) (by kernel_rfl) (clo_first (Nat.le_of_ble_eq_true (by kernel_rfl)) (by kernel_rfl)) (fun j hj => by cases hj) ?_; simp only [List.map_cons, List.map_nil, List.getD_cons_succ, List.getD_cons_zero]; (first | (refine wpG_l ?_ (fun K hK => ?_); (· (simp [go_sem, Region.wanted, yielded]; done)); go_simp; refine hK _ ?_; clear hK K) | (refine wpG_s ?_ ?_; (· (simp [go_sem, Region.wanted, yielded]; done)))); (first | (refine wpG_l ?_ (fun K hK => ?_); (· (simp [go_sem, Region.wanted, yielded]; done)); go_simp; refine hK _ ?_; clear hK K) | (refine wpG_s ?_ ?_; (· (simp [go_sem, Region.wanted, yielded]; done)))); refine wpG_nil ?_; intro d0; have hx1 : Ext v (grow v d0) := ⟨d0, rfl⟩; generalize grow v d0 = y1 at *; (refine wpX_c ?_ (fun t1 ht K hK => ?_); (· (simp [go_sem, Region.wanted, yielded]; done)); have hx1 := hx1.trans ht; go_simp; refine ⟨_, _, ⟨rfl, rfl⟩, ?_⟩; (with_reducible refine (OF _).mono ?_); rintro e y2 ⟨rfl, hz2⟩; have hx2 : Ext v y2 := hx1.trans hz2; refine ⟨_, rfl, hz2, hK _ _ ?_⟩; clear hK K); (first | (refine wpX_v ?_ (fun t2 ht K hK => ?_); (· (simp [go_sem, Region.wanted, yielded]; done)); have hx2 := hx2.trans ht; go_simp; refine ⟨_, _, ⟨rfl, rfl⟩, Ext.refl _, hK _ _ ?_⟩; clear hK K) | (refine wpX_s ?_ (fun t2 ht => ?_); (· (simp [go_sem, Region.wanted, yielded]; done)); have hx2 := hx2.trans ht)); (refine wpX_v rfl (fun t2 ht K hK => ?_); have hx2 := hx2.trans ht; go_simp; refine ⟨_, _, ⟨rfl, rfl⟩, Ext.refl _, hK _ _ ?_⟩; clear hK K); refine wpX_nil (fun y ht b hb => ?_); have hxv := hx2.trans ht; have hx := hx.trans hxv; simp only [fill]; clear hb; replace BA := BA.ext hxv; clear lBA cBA fBA; clear hxv ht b; obtain ⟨v, rfl⟩ : ∃ v', v' = y := ⟨_, rfl⟩; have lBA := BA.lt; have cBA := BA.cell; have fBA := BA.frozen; refine wpAny_done (by kernel_rfl) ?_; simp only [List.drop_succ_cons, List.drop_zero, List.drop_nil]
  go_wp2
  exact bodyPost_ret (v := .tuple #[.int .i64 0, .bool false]) (by simp [results, Tryz.results34, go_sem]) rfl ⟨rfl, hx⟩
set_option maxHeartbeats 8000000 in
theorem limbSmall_n3 (m : Nat) (hm : m < B4) (CK : ∀ w, Calls Tryz.prog 69 #[intV true m] w fun e w' => e = .returned (.int .i64 0) ∧ Ext w w')
    (OF : ∀ w, Calls Tryz.prog 68 #[.int .i64 (wrap64 (-(wrap64 ((wn m 0 : Nat) : Int))))] w fun e w' => e = .returned (intV true m) ∧ Ext w w') (w : World) :
    Calls Tryz.prog 34 #[intV true m] w fun e w' => e = .returned (.tuple #[.int .i64 (wrap64 (-(wrap64 ((wn m 0 : Nat) : Int)))), .bool true]) ∧ Ext w w' := by
  have hx : Ext w w := Ext.refl w
  have EQ : ∀ w, (Op.equalIn 10000 27 (intV true m) (intV true m)).run Tryz.prog w = .ok true w := fun w => by rw [run_eq_int true m true m hm hm w]; simp
  go_enter Tryz.func34, Tryz.ntmps34
  go_upto_region 5 with fail
  refine wp_rebase fun v hv => ?_
  replace hx : Ext w v := by rw [hv]; exact ext_auto
  have BA : Blk v w.heap.size #[.bool true, q64 (wn m 0), q64 (wn m 1), q64 (wn m 2), q64 (wn m 3)] 27 := by rw [hv]; exact blk_auto
  clear hv
  have lBA := BA.lt; have cBA := BA.cell; have fBA := BA.frozen
  (first | refine wp_region_p (by kernel_rfl) ?_ | refine wp_region_p' (by kernel_rfl) ?_); refine wpAny_ph 0 4 [0] [1, 2, 3] [] (fun _ => .cells #[] 0) (by decide) (by kernel_rfl) (clo_first (Nat.le_of_ble_eq_true (by kernel_rfl)) (by kernel_rfl)) (fun j hj => by cases hj) ?_; simp only [List.map_cons, List.map_nil, List.getD_cons_succ, List.getD_cons_zero]; (refine wpG_l rfl (fun K hK => ?_); go_simp; refine hK _ ?_; clear hK K); refine wpG_nil ?_; intro d0; have hx0 : Ext v (grow v d0) := ⟨d0, rfl⟩; generalize grow v d0 = y0 at *; (refine wpX_c rfl (fun t0 ht K hK => ?_); have hx0 := hx0.trans ht; go_simp; refine ⟨_, _, ⟨rfl, rfl⟩, ?_⟩; (with_reducible refine (CK _).mono ?_); rintro e y1 ⟨rfl, hz1⟩; have hx1 : Ext v y1 := hx0.trans hz1; refine ⟨_, rfl, hz1, hK _ _ ?_⟩; clear hK K); (refine wpX_v rfl (fun t1 ht K hK => ?_); have hx1 := hx1.trans ht; go_simp; refine ⟨_, _, ⟨rfl, rfl⟩, Ext.refl _, hK _ _ ?_⟩; clear hK K); (refine wpX_v rfl (fun t1 ht K hK => ?_); have hx1 := hx1.trans ht; go_simp; refine ⟨_, _, ⟨rfl, rfl⟩, Ext.refl _, hK _ _ ?_⟩; clear hK K); refine wpX_nil (fun y ht b hb => ?_); have hxv := hx1.trans ht; have hx := hx.trans hxv; simp only [fill]; clear hb; replace BA := BA.ext hxv; clear lBA cBA fBA; clear hxv ht b; obtain ⟨v, rfl⟩ : ∃ v', v' = y := ⟨_, rfl⟩; have lBA := BA.lt; have cBA := BA.cell; have fBA := BA.frozen; refine wpAny_at ?_; refine wpAny_ph 4 9 [4, 6] [5, 7, 8] [] (fun _ => .cells #[] 0) (by decide) (by kernel_rfl) (clo_first (Nat.le_of_ble_eq_true (by kernel_rfl)) (by kernel_rfl)) (fun j hj => by cases hj) ?_; simp only [List.map_cons, List.map_nil, List.getD_cons_succ, List.getD_cons_zero]; (first | (refine wpG_l ?_ (fun K hK => ?_); (· (simp [go_sem, Region.wanted, yielded]; done)); go_simp; refine hK _ ?_; clear hK K) | (refine wpG_s ?_ ?_; (· (simp [go_sem, Region.wanted, yielded]; done)))); (first | (refine wpG_l ?_ (fun K hK => ?_); (· (simp [go_sem, Region.wanted, yielded]; done)); go_simp; refine hK _ ?_; clear hK K) | (refine wpG_s ?_ ?_; (· (simp [go_sem, Region.wanted, yielded]; done)))); refine wpG_nil ?_; intro d0; have hx1 : Ext v (grow v d0) := ⟨d0, rfl⟩; generalize grow v d0 = y1 at *; (refine wpX_c ?_ (fun t1 ht K hK => ?_); (· (simp [go_sem, Region.wanted, yielded]; done)); have hx1 := hx1.trans ht; go_simp; refine ⟨_, _, ⟨rfl, rfl⟩, ?_⟩; (with_reducible refine (OF _).mono ?_); rintro e y2 ⟨rfl, hz2⟩; have hx2 : Ext v y2 := hx1.trans hz2; refine ⟨_, rfl, hz2, hK _ _ ?_⟩; clear hK K); (first | (refine wpX_v ?_ (fun t2 ht K hK => ?_); (· (simp [go_sem, Region.wanted, yielded]; done)); have hx2 := hx2.trans ht; go_simp; refine ⟨_, _, ⟨rfl, rfl⟩, Ext.refl _, hK _ _ ?_⟩; clear hK K) | (refine wpX_s ?_ (fun t2 ht => ?_); (· (simp [go_sem, Region.wanted, yielded]; done)); have hx2 := hx2.trans ht)); (refine wpX_v rfl (fun t2 ht K hK => ?_); have hx2 := hx2.trans ht; go_simp; refine ⟨_, _, ⟨rfl, rfl⟩, Ext.refl _, hK _ _ ?_⟩; clear hK K); refine wpX_nil (fun y ht b hb => ?_); have hxv := hx2.trans ht; have hx := hx.trans hxv; simp only [fill]; clear hb; replace BA := BA.ext hxv; clear lBA cBA fBA; clear hxv ht b; obtain ⟨v, rfl⟩ : ∃ v', v' = y := ⟨_, rfl⟩; have lBA := BA.lt; have cBA := BA.cell; have fBA := BA.frozen; refine wpAny_done (by kernel_rfl) ?_; simp only [List.drop_succ_cons, List.drop_zero, List.drop_nil]
  go_wp2
  exact bodyPost_ret (v := .tuple #[.int .i64 (wrap64 (-(wrap64 ((wn m 0 : Nat) : Int)))), .bool true]) (by simp [results, Tryz.results34, go_sem]) rfl ⟨rfl, hx⟩
end Go.Proofs.YtmopgcbhmkemjaaGreatDoor

namespace Go.Proofs.YtmopgcbhmkemjaaGreatDoor
open Go Go.RowKit
set_option linter.unusedSimpArgs false
set_option linter.unusedVariables false
set_option maxRecDepth 100000
set_option exponentiation.threshold 3000

/-- An Int that is a word. -/
def i64q (s : Bool) (m : Nat) : Bool := !(s && m == 0) && decide (-9223372036854775808 ≤ sv s m) && decide (sv s m ≤ 9223372036854775807)
theorem limbSmall_any (s : Bool) (m : Nat) (hm : m < B4) (w : World) :
    Calls Tryz.prog 34 #[intV s m] w fun e w' => e = .returned (.tuple #[.int .i64 (if i64q s m then sv s m else 0), .bool (i64q s m)]) ∧ Ext w w' := by
  have CK := fun w => check_any s m hm w
  have hB : B = 18446744073709551616 := B_eq
  have e0 : wn m 0 = m % B := by simp [wn]
  have hb : ∀ z : Int, -9223372036854775808 ≤ wrap64 z ∧ wrap64 z ≤ 9223372036854775807 := fun z => by unfold wrap64; omega
  have hl : ∀ z : Int, -9223372036854775808 ≤ z → z ≤ 9223372036854775807 → z.natAbs < B4 := fun z h1 h2 => Nat.lt_of_le_of_lt (by omega : z.natAbs ≤ 9223372036854775808) (by decide)
  cases s with
  | false =>
    have hc : chk false m = 0 := rfl
    rw [hc] at CK
    have hw : wrap64 ((wn m 0 : Nat) : Int) = (m : Int) ∨ ¬ (m : Int) ≤ 9223372036854775807 := by
      rw [e0, hB]; unfold wrap64; omega
    have OF := fun w => lOf_word _ (hb ((wn m 0 : Nat) : Int)).1 (hb ((wn m 0 : Nat) : Int)).2 w
    by_cases h : (m : Int) ≤ 9223372036854775807
    · have e1 := hw.resolve_right (fun hn => hn h)
      have hq : i64q false m = true := by unfold i64q; rw [sv_false]; simp; omega
      rw [hq, if_pos rfl, sv_false]
      have := limbSmall_p3 m hm CK (fun w => by have := OF w; rw [e1, show decide ((m : Int) < 0) = false by simp, Int.natAbs_natCast] at this; rw [e1]; exact this) w
      rwa [e1] at this
    · have hq : i64q false m = false := by unfold i64q; rw [sv_false]; simp; omega
      rw [hq]
      refine limbSmall_p2 m hm CK _ _ (hl _ (hb ((wn m 0 : Nat) : Int)).1 (hb ((wn m 0 : Nat) : Int)).2) ?_ OF w
      rintro ⟨h1, h2⟩
      have := hb ((wn m 0 : Nat) : Int)
      have h3 := of_decide_eq_false h1
      omega
  | true =>
    by_cases h0 : m = 0
    · subst h0
      have hc : chk true 0 = 2 := by decide
      rw [hc] at CK
      exact limbSmall_n1 0 hm CK w
    have hc : chk true m = 0 := by unfold chk badI; simp [h0]
    rw [hc] at CK
    have hw : wrap64 (-(wrap64 ((wn m 0 : Nat) : Int))) = -(m : Int) ∨ ¬ (m : Int) ≤ 9223372036854775808 := by
      rw [e0, hB]; unfold wrap64; omega
    have OF := fun w => lOf_word _ (hb (-(wrap64 ((wn m 0 : Nat) : Int)))).1 (hb (-(wrap64 ((wn m 0 : Nat) : Int)))).2 w
    by_cases h : (m : Int) ≤ 9223372036854775808
    · have e1 := hw.resolve_right (fun hn => hn h)
      have hq : i64q true m = true := by unfold i64q; show (!(true && m == 0) && decide (-9223372036854775808 ≤ -(m : Int)) && decide (-(m : Int) ≤ 9223372036854775807)) = _; simp [h0]; omega
      rw [hq, if_pos rfl, show sv true m = -(m : Int) from rfl]
      have := limbSmall_n3 m hm CK (fun w => by have := OF w; rw [e1, show decide (-(m : Int) < 0) = true by simp; omega, Int.natAbs_neg, Int.natAbs_natCast] at this; rw [e1]; exact this) w
      rwa [e1] at this
    · have hq : i64q true m = false := by unfold i64q; show (!(true && m == 0) && decide (-9223372036854775808 ≤ -(m : Int)) && decide (-(m : Int) ≤ 9223372036854775807)) = _; simp [h0]; omega
      rw [hq]
      refine limbSmall_n2 m hm CK _ _ (hl _ (hb (-(wrap64 ((wn m 0 : Nat) : Int)))).1 (hb (-(wrap64 ((wn m 0 : Nat) : Int)))).2) ?_ OF w
      rintro ⟨_, h2⟩
      have := hb (-(wrap64 ((wn m 0 : Nat) : Int)))
      omega
end Go.Proofs.YtmopgcbhmkemjaaGreatDoor

namespace Go.Proofs.YtmopgcbhmkemjaaGreatDoor
open Go Go.RowKit
set_option linter.unusedSimpArgs false
set_option linter.unusedVariables false
set_option maxRecDepth 100000
set_option exponentiation.threshold 3000

set_option maxHeartbeats 8000000 in
theorem ptOf_no (x y : Int) (CK : ∀ w, Calls Tryz.prog 15 #[ndV x y] w fun e w' => e = .returned (.int .i64 2) ∧ Ext w w') (w : World) :
    Calls Tryz.prog 9 #[ndV x y] w fun e w' => e = .returned (.tuple #[pZ, .int .i64 2]) ∧ Ext w w' := by
  have hx : Ext w w := Ext.refl w
  go_enter Tryz.func9, Tryz.ntmps9
  go_wp2_with (first | ((with_reducible apply wpList_store_row info_point); (case hs => exact rfl); (case hv => exact rfl); (case hB => exact blk_auto); (case hy => rfl); (case hc => rfl); (case h1 => rfl)) | (go_at_call 15; (with_reducible refine (CK _).mono ?_); rintro e y1 ⟨rfl, hz_⟩; have hzz_ : Ext w y1 := Ext.trans ext_auto hz_; replace hx := hx.trans hzz_; have BO : Blk y1 (w.heap.size + 1) zPt 31 := Blk.ext blk_auto hz_; clear hz_ hzz_; have lBO := BO.lt; have cBO := BO.cell; have fBO := BO.frozen))
  refine bp_rebase fun u hu => ?_
  have hy : Ext w u := by rw [hu]; exact Ext.setRow hx (by omega)
  have BF : Blk u (w.heap.size + 1) zPt 31 := by rw [hu]; exact BO.setRowSame
  clear hu
  exact bodyPost_ret (v := .tuple #[pZ, .int .i64 2]) (results_pt_tmp Tryz.results9 rfl rfl BF rfl) rfl ⟨rfl, hy⟩
set_option maxHeartbeats 8000000 in
theorem ptOf_yes (x y : Int) (X Y : Rt) (CK : ∀ w, Calls Tryz.prog 15 #[ndV x y] w fun e w' => e = .returned (.int .i64 0) ∧ Ext w w') (O1 : Ans 33 #[.int .i64 x] X.v) (O2 : Ans 33 #[.int .i64 y] Y.v) (w : World) :
    Calls Tryz.prog 9 #[ndV x y] w fun e w' => e = .returned (.tuple #[pV X Y, .int .i64 0]) ∧ Ext w w' := by
  have hx : Ext w w := Ext.refl w
  obtain ⟨sa, ma, ta, ka, _, _⟩ := X
  obtain ⟨sb, mb, tb, kb, _, _⟩ := Y
  go_enter Tryz.func9, Tryz.ntmps9
  go_upto_region 4 with (go_at_call 15; (with_reducible refine (CK _).mono ?_); rintro e y1 ⟨rfl, hz_⟩; have hzz_ : Ext w y1 := Ext.trans ext_auto hz_; replace hx := hx.trans hzz_; have BO : Blk y1 (w.heap.size + 1) zPt 31 := Blk.ext blk_auto hz_; have BA : Blk y1 w.heap.size #[.int .i64 x, .int .i64 y] 23 := Blk.ext blk_auto hz_; clear hz_ hzz_)
  refine wp_rebase fun v hv => ?_
  have hzv : Ext y1 v := by rw [hv]; exact ext_auto
  replace hx := hx.trans hzv; replace BO := BO.ext hzv; replace BA := BA.ext hzv
  clear hv hzv CK
  have hws := hx.size
  have lBA := BA.lt; have cBA := BA.cell; have fBA := BA.frozen; have lBO := BO.lt; have cBO := BO.cell; have fBO := BO.frozen
  (first | refine wp_region_p (by kernel_rfl) ?_ | refine wp_region_p' (by kernel_rfl) ?_); refine wpAny_ph 0 7 [0, 1, 3, 4] [2, 5, 6] [] (fun _ => .cells #[] 0) (by decide) (by kernel_rfl) (clo_first (Nat.le_of_ble_eq_true (by kernel_rfl)) (by kernel_rfl)) (fun j hj => by cases hj) ?_; simp only [List.map_cons, List.map_nil, List.getD_cons_succ, List.getD_cons_zero]; (refine wpG_l rfl (fun K hK => ?_); go_simp; refine hK _ ?_; clear hK K); (refine wpG_l rfl (fun K hK => ?_); go_simp; refine hK _ ?_; clear hK K); (refine wpG_l rfl (fun K hK => ?_); go_simp; refine hK _ ?_; clear hK K); (refine wpG_l rfl (fun K hK => ?_); go_simp; refine hK _ ?_; clear hK K); refine wpG_nil ?_; intro d0; have hx0 : Ext v (grow v d0) := ⟨d0, rfl⟩; generalize grow v d0 = y0 at *; (refine wpX_c rfl (fun t0 ht K hK => ?_); have hx0 := hx0.trans ht; go_simp; refine ⟨_, _, ⟨rfl, rfl⟩, ?_⟩; (with_reducible refine (O1 _).mono ?_); rintro e y1 ⟨rfl, hz1⟩; have hx1 : Ext v y1 := hx0.trans hz1; refine ⟨_, rfl, hz1, hK _ _ ?_⟩; clear hK K); (refine wpX_c rfl (fun t1 ht K hK => ?_); have hx1 := hx1.trans ht; go_simp; refine ⟨_, _, ⟨rfl, rfl⟩, ?_⟩; (with_reducible refine (O2 _).mono ?_); rintro e y2 ⟨rfl, hz2⟩; have hx2 : Ext v y2 := hx1.trans hz2; refine ⟨_, rfl, hz2, hK _ _ ?_⟩; clear hK K); (refine wpX_v rfl (fun t2 ht K hK => ?_); have hx2 := hx2.trans ht; go_simp; refine ⟨_, _, ⟨rfl, rfl⟩, Ext.refl _, hK _ _ ?_⟩; clear hK K); refine wpX_nil (fun y ht b hb => ?_); have hxv := hx2.trans ht; have hx := hx.trans hxv; simp only [fill]; clear hb; replace BA := BA.ext hxv; clear lBA cBA fBA; replace BO := BO.ext hxv; clear lBO cBO fBO; clear hxv ht b; obtain ⟨v, rfl⟩ : ∃ v', v' = y := ⟨_, rfl⟩; have lBA := BA.lt; have cBA := BA.cell; have fBA := BA.frozen; have lBO := BO.lt; have cBO := BO.cell; have fBO := BO.frozen; refine wpAny_done (by kernel_rfl) ?_; simp only [List.drop_succ_cons, List.drop_zero, List.drop_nil]
  go_wp2_with (first | ((with_reducible apply wpList_store_row info_point); (case hs => exact rfl); (case hv => exact rfl); (case hB => exact blk_auto); (case hy => rfl); (case hc => rfl); (case h1 => rfl)))
  refine bp_rebase fun u hu => ?_
  have hy : Ext w u := by rw [hu]; exact Ext.setRow hx (by omega)
  have BF : Blk u (w.heap.size + 1) (ptsV sa ma ta ka sb mb tb kb) 31 := by rw [hu]; exact BO.setRowSame
  clear hu
  exact bodyPost_ret (v := .tuple #[(ptV sa ma ta ka sb mb tb kb), .int .i64 0]) (results_pt_tmp Tryz.results9 rfl rfl BF rfl) rfl ⟨rfl, hy⟩
theorem ptOf_any (x y : Int) (h1 : -9223372036854775808 ≤ x) (h2 : x ≤ 9223372036854775807) (h3 : -9223372036854775808 ≤ y) (h4 : y ≤ 9223372036854775807) (w : World) :
    Calls Tryz.prog 9 #[ndV x y] w fun e w' => e = .returned (if inC x && inC y then .tuple #[pV (rI x (by omega)) (rI y (by omega)), .int .i64 0] else .tuple #[pZ, .int .i64 2]) ∧ Ext w w' := by
  have CK := fun w => pcheck_any x y w
  cases hc : (inC x && inC y) with
  | false => rw [hc] at CK; exact ptOf_no x y CK w
  | true => rw [hc] at CK; exact ptOf_yes x y _ _ CK (rOf_I x h1 h2) (rOf_I y h3 h4) w
set_option maxHeartbeats 16000000 in
theorem ptGrid_1 (x y : Int) (a b X Y : Rt) (p q : Bool) (e : Int) (S1 : ∀ w, Calls Tryz.prog 34 #[intV a.s a.m] w fun e w' => e = .returned (.tuple #[.int .i64 x, .bool p]) ∧ Ext w w') (S2 : ∀ w, Calls Tryz.prog 34 #[intV b.s b.m] w fun e w' => e = .returned (.tuple #[.int .i64 y, .bool q]) ∧ Ext w w')
    (OF : ∀ w, Calls Tryz.prog 9 #[ndV x y] w fun e' w' => e' = .returned (.tuple #[pV X Y, .int .i64 e]) ∧ Ext w w')
    (hp : p = false) (w : World) : Calls Tryz.prog 10 #[pV a b] w fun e w' => e = .returned (.tuple #[ndV 0 0, .bool false]) ∧ Ext w w' := by
  have hx : Ext w w := Ext.refl w
  subst hp
  obtain ⟨sa, ma, ta, ka, _, _⟩ := a
  obtain ⟨sb, mb, tb, kb, _, _⟩ := b
  obtain ⟨sc, mc, tc, kc, _, _⟩ := X
  obtain ⟨sd, md, td, kd, _, _⟩ := Y
  go_enter Tryz.func10, Tryz.ntmps10
  go_wp2_with (go_at_call 34; (with_reducible refine (S1 _).mono ?_); rintro e y1 ⟨rfl, hz_⟩; have hzz_ : Ext w y1 := Ext.trans ext_auto hz_; have BA : Blk y1 w.heap.size (ptsV sa ma ta ka sb mb tb kb) 31 := Blk.ext blk_auto hz_; have BO : Blk y1 (w.heap.size + 1) #[.int .i64 0, .int .i64 0] 23 := Blk.ext blk_auto hz_; replace hx := hx.trans hzz_; clear hz_ hzz_; have lBA := BA.lt; have cBA := BA.cell; have fBA := BA.frozen; have lBO := BO.lt; have cBO := BO.cell; have fBO := BO.frozen)
  go_wp2_with (go_at_call 34; (with_reducible refine (S2 _).mono ?_); rintro e y2 ⟨rfl, hz_⟩; have hzz_ : Ext y1 y2 := Ext.trans ext_auto hz_; replace BA := BA.ext hzz_; clear lBA cBA fBA; replace BO := BO.ext hzz_; clear lBO cBO fBO; replace hx := hx.trans hzz_; clear hz_ hzz_; have lBA := BA.lt; have cBA := BA.cell; have fBA := BA.frozen; have lBO := BO.lt; have cBO := BO.cell; have fBO := BO.frozen)
  go_upto_region 5 with (first | ((with_reducible apply wpList_store_row info_point); (case hs => exact rfl); (case hv => exact rfl); (case hB => exact blk_auto); (case hy => rfl); (case hc => rfl); (case h1 => rfl)) | (go_at_call 9; (with_reducible refine (OF _).mono ?_); rintro e y3 ⟨rfl, hz_⟩; have hzz_ : Ext y2 y3 := Ext.trans ext_auto hz_; have BN : Blk y3 y2.heap.size #[.int .i64 x, .int .i64 y] 23 := Blk.ext blk_auto hz_))
  refine wp_rebase fun v hv => ?_
  have hzv : Ext y3 v := by rw [hv]; exact Ext.setRow ext_auto (Nat.le_refl _)
  have BP : Blk v y3.heap.size (ptsV sc mc tc kc sd md td kd) 31 := by rw [hv]; exact Blk.setRowSame (Blk.new _ _ _ rfl)
  clear hv
  replace BA := (BA.ext hzz_).ext hzv; replace BO := (BO.ext hzz_).ext hzv; replace BN := BN.ext hzv
  have hw1 := hx.size
  replace hx := (hx.trans hzz_).trans hzv
  clear hzz_ hzv hz_ lBA cBA fBA lBO cBO fBO S1 S2 OF
  have lBA := BA.lt; have cBA := BA.cell; have fBA := BA.frozen; have lBO := BO.lt; have cBO := BO.cell; have fBO := BO.frozen; have lBN := BN.lt; have cBN := BN.cell; have fBN := BN.frozen; have lBP := BP.lt; have cBP := BP.cell; have fBP := BP.frozen
  go_wp2_with (first | ((with_reducible apply wpList_load_row Tryz.isAgg31 Tryz.sizeOf31); (case hw => (simp [go_sem, Region.wanted, yielded]; done)); (case hs => exact rfl); (case hB => exact blk_auto); (case hc => rfl)))
  refine bp_rebase fun u hu => ?_
  have hy : Ext w u := by rw [hu]; exact ext_auto
  have BF : Blk u (w.heap.size + 1) #[.int .i64 0, .int .i64 0] 23 := by rw [hu]; exact blk_auto
  clear hu
  have lBF := BF.lt; have cBF := BF.cell; have fBF := BF.frozen; clear BF
  exact bodyPost_ret (v := .tuple #[ndV 0 0, .bool false]) (by simp [results, Tryz.results10, go_sem, cBF]) rfl ⟨rfl, hy⟩
set_option maxHeartbeats 16000000 in
theorem ptGrid_2 (x y : Int) (a b X Y : Rt) (p q : Bool) (e : Int) (S1 : ∀ w, Calls Tryz.prog 34 #[intV a.s a.m] w fun e w' => e = .returned (.tuple #[.int .i64 x, .bool p]) ∧ Ext w w') (S2 : ∀ w, Calls Tryz.prog 34 #[intV b.s b.m] w fun e w' => e = .returned (.tuple #[.int .i64 y, .bool q]) ∧ Ext w w')
    (OF : ∀ w, Calls Tryz.prog 9 #[ndV x y] w fun e' w' => e' = .returned (.tuple #[pV X Y, .int .i64 e]) ∧ Ext w w')
    (hp : p = true) (hq : q = false) (w : World) : Calls Tryz.prog 10 #[pV a b] w fun e w' => e = .returned (.tuple #[ndV 0 0, .bool false]) ∧ Ext w w' := by
  have hx : Ext w w := Ext.refl w
  subst hp hq
  obtain ⟨sa, ma, ta, ka, _, _⟩ := a
  obtain ⟨sb, mb, tb, kb, _, _⟩ := b
  obtain ⟨sc, mc, tc, kc, _, _⟩ := X
  obtain ⟨sd, md, td, kd, _, _⟩ := Y
  go_enter Tryz.func10, Tryz.ntmps10
  go_wp2_with (go_at_call 34; (with_reducible refine (S1 _).mono ?_); rintro e y1 ⟨rfl, hz_⟩; have hzz_ : Ext w y1 := Ext.trans ext_auto hz_; have BA : Blk y1 w.heap.size (ptsV sa ma ta ka sb mb tb kb) 31 := Blk.ext blk_auto hz_; have BO : Blk y1 (w.heap.size + 1) #[.int .i64 0, .int .i64 0] 23 := Blk.ext blk_auto hz_; replace hx := hx.trans hzz_; clear hz_ hzz_; have lBA := BA.lt; have cBA := BA.cell; have fBA := BA.frozen; have lBO := BO.lt; have cBO := BO.cell; have fBO := BO.frozen)
  go_wp2_with (go_at_call 34; (with_reducible refine (S2 _).mono ?_); rintro e y2 ⟨rfl, hz_⟩; have hzz_ : Ext y1 y2 := Ext.trans ext_auto hz_; replace BA := BA.ext hzz_; clear lBA cBA fBA; replace BO := BO.ext hzz_; clear lBO cBO fBO; replace hx := hx.trans hzz_; clear hz_ hzz_; have lBA := BA.lt; have cBA := BA.cell; have fBA := BA.frozen; have lBO := BO.lt; have cBO := BO.cell; have fBO := BO.frozen)
  go_upto_region 5 with (first | ((with_reducible apply wpList_store_row info_point); (case hs => exact rfl); (case hv => exact rfl); (case hB => exact blk_auto); (case hy => rfl); (case hc => rfl); (case h1 => rfl)) | (go_at_call 9; (with_reducible refine (OF _).mono ?_); rintro e y3 ⟨rfl, hz_⟩; have hzz_ : Ext y2 y3 := Ext.trans ext_auto hz_; have BN : Blk y3 y2.heap.size #[.int .i64 x, .int .i64 y] 23 := Blk.ext blk_auto hz_))
  refine wp_rebase fun v hv => ?_
  have hzv : Ext y3 v := by rw [hv]; exact Ext.setRow ext_auto (Nat.le_refl _)
  have BP : Blk v y3.heap.size (ptsV sc mc tc kc sd md td kd) 31 := by rw [hv]; exact Blk.setRowSame (Blk.new _ _ _ rfl)
  clear hv
  replace BA := (BA.ext hzz_).ext hzv; replace BO := (BO.ext hzz_).ext hzv; replace BN := BN.ext hzv
  have hw1 := hx.size
  replace hx := (hx.trans hzz_).trans hzv
  clear hzz_ hzv hz_ lBA cBA fBA lBO cBO fBO S1 S2 OF
  have lBA := BA.lt; have cBA := BA.cell; have fBA := BA.frozen; have lBO := BO.lt; have cBO := BO.cell; have fBO := BO.frozen; have lBN := BN.lt; have cBN := BN.cell; have fBN := BN.frozen; have lBP := BP.lt; have cBP := BP.cell; have fBP := BP.frozen
  go_wp2_with (first | ((with_reducible apply wpList_load_row Tryz.isAgg31 Tryz.sizeOf31); (case hw => (simp [go_sem, Region.wanted, yielded]; done)); (case hs => exact rfl); (case hB => exact blk_auto); (case hc => rfl)))
  refine bp_rebase fun u hu => ?_
  have hy : Ext w u := by rw [hu]; exact ext_auto
  have BF : Blk u (w.heap.size + 1) #[.int .i64 0, .int .i64 0] 23 := by rw [hu]; exact blk_auto
  clear hu
  have lBF := BF.lt; have cBF := BF.cell; have fBF := BF.frozen; clear BF
  exact bodyPost_ret (v := .tuple #[ndV 0 0, .bool false]) (by simp [results, Tryz.results10, go_sem, cBF]) rfl ⟨rfl, hy⟩
set_option maxHeartbeats 16000000 in
theorem ptGrid_3 (x y : Int) (a b X Y : Rt) (p q : Bool) (e : Int) (S1 : ∀ w, Calls Tryz.prog 34 #[intV a.s a.m] w fun e w' => e = .returned (.tuple #[.int .i64 x, .bool p]) ∧ Ext w w') (S2 : ∀ w, Calls Tryz.prog 34 #[intV b.s b.m] w fun e w' => e = .returned (.tuple #[.int .i64 y, .bool q]) ∧ Ext w w')
    (OF : ∀ w, Calls Tryz.prog 9 #[ndV x y] w fun e' w' => e' = .returned (.tuple #[pV X Y, .int .i64 e]) ∧ Ext w w')
    (hp : p = true) (hq : q = true) (he : e = 2) (w : World) : Calls Tryz.prog 10 #[pV a b] w fun e w' => e = .returned (.tuple #[ndV 0 0, .bool false]) ∧ Ext w w' := by
  have hx : Ext w w := Ext.refl w
  subst hp hq he
  obtain ⟨sa, ma, ta, ka, _, _⟩ := a
  obtain ⟨sb, mb, tb, kb, _, _⟩ := b
  obtain ⟨sc, mc, tc, kc, _, _⟩ := X
  obtain ⟨sd, md, td, kd, _, _⟩ := Y
  go_enter Tryz.func10, Tryz.ntmps10
  go_wp2_with (go_at_call 34; (with_reducible refine (S1 _).mono ?_); rintro e y1 ⟨rfl, hz_⟩; have hzz_ : Ext w y1 := Ext.trans ext_auto hz_; have BA : Blk y1 w.heap.size (ptsV sa ma ta ka sb mb tb kb) 31 := Blk.ext blk_auto hz_; have BO : Blk y1 (w.heap.size + 1) #[.int .i64 0, .int .i64 0] 23 := Blk.ext blk_auto hz_; replace hx := hx.trans hzz_; clear hz_ hzz_; have lBA := BA.lt; have cBA := BA.cell; have fBA := BA.frozen; have lBO := BO.lt; have cBO := BO.cell; have fBO := BO.frozen)
  go_wp2_with (go_at_call 34; (with_reducible refine (S2 _).mono ?_); rintro e y2 ⟨rfl, hz_⟩; have hzz_ : Ext y1 y2 := Ext.trans ext_auto hz_; replace BA := BA.ext hzz_; clear lBA cBA fBA; replace BO := BO.ext hzz_; clear lBO cBO fBO; replace hx := hx.trans hzz_; clear hz_ hzz_; have lBA := BA.lt; have cBA := BA.cell; have fBA := BA.frozen; have lBO := BO.lt; have cBO := BO.cell; have fBO := BO.frozen)
  go_upto_region 5 with (first | ((with_reducible apply wpList_store_row info_point); (case hs => exact rfl); (case hv => exact rfl); (case hB => exact blk_auto); (case hy => rfl); (case hc => rfl); (case h1 => rfl)) | (go_at_call 9; (with_reducible refine (OF _).mono ?_); rintro e y3 ⟨rfl, hz_⟩; have hzz_ : Ext y2 y3 := Ext.trans ext_auto hz_; have BN : Blk y3 y2.heap.size #[.int .i64 x, .int .i64 y] 23 := Blk.ext blk_auto hz_))
  refine wp_rebase fun v hv => ?_
  have hzv : Ext y3 v := by rw [hv]; exact Ext.setRow ext_auto (Nat.le_refl _)
  have BP : Blk v y3.heap.size (ptsV sc mc tc kc sd md td kd) 31 := by rw [hv]; exact Blk.setRowSame (Blk.new _ _ _ rfl)
  clear hv
  replace BA := (BA.ext hzz_).ext hzv; replace BO := (BO.ext hzz_).ext hzv; replace BN := BN.ext hzv
  have hw1 := hx.size
  replace hx := (hx.trans hzz_).trans hzv
  clear hzz_ hzv hz_ lBA cBA fBA lBO cBO fBO S1 S2 OF
  have lBA := BA.lt; have cBA := BA.cell; have fBA := BA.frozen; have lBO := BO.lt; have cBO := BO.cell; have fBO := BO.frozen; have lBN := BN.lt; have cBN := BN.cell; have fBN := BN.frozen; have lBP := BP.lt; have cBP := BP.cell; have fBP := BP.frozen
  go_wp2_with (first | ((with_reducible apply wpList_load_row Tryz.isAgg31 Tryz.sizeOf31); (case hw => (simp [go_sem, Region.wanted, yielded]; done)); (case hs => exact rfl); (case hB => exact blk_auto); (case hc => rfl)))
  refine bp_rebase fun u hu => ?_
  have hy : Ext w u := by rw [hu]; exact ext_auto
  have BF : Blk u (w.heap.size + 1) #[.int .i64 0, .int .i64 0] 23 := by rw [hu]; exact blk_auto
  clear hu
  have lBF := BF.lt; have cBF := BF.cell; have fBF := BF.frozen; clear BF
  exact bodyPost_ret (v := .tuple #[ndV 0 0, .bool false]) (by simp [results, Tryz.results10, go_sem, cBF]) rfl ⟨rfl, hy⟩
set_option maxHeartbeats 16000000 in
theorem ptGrid_4 (x y : Int) (a b X Y : Rt) (p q : Bool) (e : Int) (S1 : ∀ w, Calls Tryz.prog 34 #[intV a.s a.m] w fun e w' => e = .returned (.tuple #[.int .i64 x, .bool p]) ∧ Ext w w') (S2 : ∀ w, Calls Tryz.prog 34 #[intV b.s b.m] w fun e w' => e = .returned (.tuple #[.int .i64 y, .bool q]) ∧ Ext w w')
    (OF : ∀ w, Calls Tryz.prog 9 #[ndV x y] w fun e' w' => e' = .returned (.tuple #[pV X Y, .int .i64 e]) ∧ Ext w w')
    (hp : p = true) (hq : q = true) (he : e = 0) (EQ : ∀ w, (Op.equalIn 10000 31 (pV X Y) (pV a b)).run Tryz.prog w = .ok false w) (w : World) : Calls Tryz.prog 10 #[pV a b] w fun e w' => e = .returned (.tuple #[ndV 0 0, .bool false]) ∧ Ext w w' := by
  have hx : Ext w w := Ext.refl w
  subst hp hq he
  obtain ⟨sa, ma, ta, ka, _, _⟩ := a
  obtain ⟨sb, mb, tb, kb, _, _⟩ := b
  obtain ⟨sc, mc, tc, kc, _, _⟩ := X
  obtain ⟨sd, md, td, kd, _, _⟩ := Y
  replace EQ : ∀ w, (Op.equalIn 10000 31 (.agg (ptsV sc mc tc kc sd md td kd)) (.agg (ptsV sa ma ta ka sb mb tb kb))).run Tryz.prog w = .ok false w := EQ
  replace OF : ∀ w, Calls Tryz.prog 9 #[ndV x y] w fun e' w' => e' = .returned (.tuple #[.agg (ptsV sc mc tc kc sd md td kd), .int .i64 0]) ∧ Ext w w' := OF
  go_enter Tryz.func10, Tryz.ntmps10
  go_wp2_with (go_at_call 34; (with_reducible refine (S1 _).mono ?_); rintro e y1 ⟨rfl, hz_⟩; have hzz_ : Ext w y1 := Ext.trans ext_auto hz_; have BA : Blk y1 w.heap.size (ptsV sa ma ta ka sb mb tb kb) 31 := Blk.ext blk_auto hz_; have BO : Blk y1 (w.heap.size + 1) #[.int .i64 0, .int .i64 0] 23 := Blk.ext blk_auto hz_; replace hx := hx.trans hzz_; clear hz_ hzz_; have lBA := BA.lt; have cBA := BA.cell; have fBA := BA.frozen; have lBO := BO.lt; have cBO := BO.cell; have fBO := BO.frozen)
  go_wp2_with (go_at_call 34; (with_reducible refine (S2 _).mono ?_); rintro e y2 ⟨rfl, hz_⟩; have hzz_ : Ext y1 y2 := Ext.trans ext_auto hz_; replace BA := BA.ext hzz_; clear lBA cBA fBA; replace BO := BO.ext hzz_; clear lBO cBO fBO; replace hx := hx.trans hzz_; clear hz_ hzz_; have lBA := BA.lt; have cBA := BA.cell; have fBA := BA.frozen; have lBO := BO.lt; have cBO := BO.cell; have fBO := BO.frozen)
  go_upto_region 5 with (first | ((with_reducible apply wpList_store_row info_point); (case hs => exact rfl); (case hv => exact rfl); (case hB => exact blk_auto); (case hy => rfl); (case hc => rfl); (case h1 => rfl)) | (go_at_call 9; (with_reducible refine (OF _).mono ?_); rintro e y3 ⟨rfl, hz_⟩; have hzz_ : Ext y2 y3 := Ext.trans ext_auto hz_; have BN : Blk y3 y2.heap.size #[.int .i64 x, .int .i64 y] 23 := Blk.ext blk_auto hz_))
  refine wp_rebase fun v hv => ?_
  have hzv : Ext y3 v := by rw [hv]; exact Ext.setRow ext_auto (Nat.le_refl _)
  have BP : Blk v y3.heap.size (ptsV sc mc tc kc sd md td kd) 31 := by rw [hv]; exact Blk.setRowSame (Blk.new _ _ _ rfl)
  clear hv
  replace BA := (BA.ext hzz_).ext hzv; replace BO := (BO.ext hzz_).ext hzv; replace BN := BN.ext hzv
  have hw1 := hx.size
  replace hx := (hx.trans hzz_).trans hzv
  clear hzz_ hzv hz_ lBA cBA fBA lBO cBO fBO S1 S2 OF
  have lBA := BA.lt; have cBA := BA.cell; have fBA := BA.frozen; have lBO := BO.lt; have cBO := BO.cell; have fBO := BO.frozen; have lBN := BN.lt; have cBN := BN.cell; have fBN := BN.frozen; have lBP := BP.lt; have cBP := BP.cell; have fBP := BP.frozen
  go_wp2_with (first | ((with_reducible apply wpList_load_row Tryz.isAgg31 Tryz.sizeOf31); (case hw => (simp [go_sem, Region.wanted, yielded]; done)); (case hs => exact rfl); (case hB => exact blk_auto); (case hc => rfl)))
  refine bp_rebase fun u hu => ?_
  have hy : Ext w u := by rw [hu]; exact ext_auto
  have BF : Blk u (w.heap.size + 1) #[.int .i64 0, .int .i64 0] 23 := by rw [hu]; exact blk_auto
  clear hu
  have lBF := BF.lt; have cBF := BF.cell; have fBF := BF.frozen; clear BF
  exact bodyPost_ret (v := .tuple #[ndV 0 0, .bool false]) (by simp [results, Tryz.results10, go_sem, cBF]) rfl ⟨rfl, hy⟩
set_option maxHeartbeats 16000000 in
theorem ptGrid_5 (x y : Int) (a b X Y : Rt) (p q : Bool) (e : Int) (S1 : ∀ w, Calls Tryz.prog 34 #[intV a.s a.m] w fun e w' => e = .returned (.tuple #[.int .i64 x, .bool p]) ∧ Ext w w') (S2 : ∀ w, Calls Tryz.prog 34 #[intV b.s b.m] w fun e w' => e = .returned (.tuple #[.int .i64 y, .bool q]) ∧ Ext w w')
    (OF : ∀ w, Calls Tryz.prog 9 #[ndV x y] w fun e' w' => e' = .returned (.tuple #[pV X Y, .int .i64 e]) ∧ Ext w w')
    (hp : p = true) (hq : q = true) (he : e = 0) (EQ : ∀ w, (Op.equalIn 10000 31 (pV X Y) (pV a b)).run Tryz.prog w = .ok true w) (w : World) : Calls Tryz.prog 10 #[pV a b] w fun e w' => e = .returned (.tuple #[ndV x y, .bool true]) ∧ Ext w w' := by
  have hx : Ext w w := Ext.refl w
  subst hp hq he
  obtain ⟨sa, ma, ta, ka, _, _⟩ := a
  obtain ⟨sb, mb, tb, kb, _, _⟩ := b
  obtain ⟨sc, mc, tc, kc, _, _⟩ := X
  obtain ⟨sd, md, td, kd, _, _⟩ := Y
  replace EQ : ∀ w, (Op.equalIn 10000 31 (.agg (ptsV sc mc tc kc sd md td kd)) (.agg (ptsV sa ma ta ka sb mb tb kb))).run Tryz.prog w = .ok true w := EQ
  replace OF : ∀ w, Calls Tryz.prog 9 #[ndV x y] w fun e' w' => e' = .returned (.tuple #[.agg (ptsV sc mc tc kc sd md td kd), .int .i64 0]) ∧ Ext w w' := OF
  go_enter Tryz.func10, Tryz.ntmps10
  go_wp2_with (go_at_call 34; (with_reducible refine (S1 _).mono ?_); rintro e y1 ⟨rfl, hz_⟩; have hzz_ : Ext w y1 := Ext.trans ext_auto hz_; have BA : Blk y1 w.heap.size (ptsV sa ma ta ka sb mb tb kb) 31 := Blk.ext blk_auto hz_; have BO : Blk y1 (w.heap.size + 1) #[.int .i64 0, .int .i64 0] 23 := Blk.ext blk_auto hz_; replace hx := hx.trans hzz_; clear hz_ hzz_; have lBA := BA.lt; have cBA := BA.cell; have fBA := BA.frozen; have lBO := BO.lt; have cBO := BO.cell; have fBO := BO.frozen)
  go_wp2_with (go_at_call 34; (with_reducible refine (S2 _).mono ?_); rintro e y2 ⟨rfl, hz_⟩; have hzz_ : Ext y1 y2 := Ext.trans ext_auto hz_; replace BA := BA.ext hzz_; clear lBA cBA fBA; replace BO := BO.ext hzz_; clear lBO cBO fBO; replace hx := hx.trans hzz_; clear hz_ hzz_; have lBA := BA.lt; have cBA := BA.cell; have fBA := BA.frozen; have lBO := BO.lt; have cBO := BO.cell; have fBO := BO.frozen)
  go_upto_region 5 with (first | ((with_reducible apply wpList_store_row info_point); (case hs => exact rfl); (case hv => exact rfl); (case hB => exact blk_auto); (case hy => rfl); (case hc => rfl); (case h1 => rfl)) | (go_at_call 9; (with_reducible refine (OF _).mono ?_); rintro e y3 ⟨rfl, hz_⟩; have hzz_ : Ext y2 y3 := Ext.trans ext_auto hz_; have BN : Blk y3 y2.heap.size #[.int .i64 x, .int .i64 y] 23 := Blk.ext blk_auto hz_))
  refine wp_rebase fun v hv => ?_
  have hzv : Ext y3 v := by rw [hv]; exact Ext.setRow ext_auto (Nat.le_refl _)
  have BP : Blk v y3.heap.size (ptsV sc mc tc kc sd md td kd) 31 := by rw [hv]; exact Blk.setRowSame (Blk.new _ _ _ rfl)
  clear hv
  replace BA := (BA.ext hzz_).ext hzv; replace BO := (BO.ext hzz_).ext hzv; replace BN := BN.ext hzv
  have hw1 := hx.size
  replace hx := (hx.trans hzz_).trans hzv
  clear hzz_ hzv hz_ lBA cBA fBA lBO cBO fBO S1 S2 OF
  have lBA := BA.lt; have cBA := BA.cell; have fBA := BA.frozen; have lBO := BO.lt; have cBO := BO.cell; have fBO := BO.frozen; have lBN := BN.lt; have cBN := BN.cell; have fBN := BN.frozen; have lBP := BP.lt; have cBP := BP.cell; have fBP := BP.frozen
  go_wp2_with (first | ((with_reducible apply wpList_load_row Tryz.isAgg31 Tryz.sizeOf31); (case hw => (simp [go_sem, Region.wanted, yielded]; done)); (case hs => exact rfl); (case hB => exact blk_auto); (case hc => rfl)))
  refine bp_rebase fun u hu => ?_
  have hy : Ext w u := by rw [hu]; exact ext_auto
  have BF : Blk u (w.heap.size + 1) #[.int .i64 x, .int .i64 y] 23 := by rw [hu]; exact blk_auto
  clear hu
  have lBF := BF.lt; have cBF := BF.cell; have fBF := BF.frozen; clear BF
  exact bodyPost_ret (v := .tuple #[ndV x y, .bool true]) (by simp [results, Tryz.results10, go_sem, cBF]) rfl ⟨rfl, hy⟩
/-- A point of whole numbers that are not too great. -/
def gridQ (a b : Rt) : Bool := a.ok && b.ok && a.k == 1 && b.k == 1 && inC (sv a.s a.m) && inC (sv b.s b.m)
theorem inC_iff (z : Int) : inC z = true ↔ -67108864 ≤ z ∧ z ≤ 67108864 := by unfold inC; simp
theorem gridQ_iff (a b : Rt) : gridQ a b = true ↔ a.ok = true ∧ b.ok = true ∧ a.k = 1 ∧ b.k = 1 ∧ inC (sv a.s a.m) = true ∧ inC (sv b.s b.m) = true := by
  unfold gridQ; simp [and_assoc]
theorem inC_i64q {s : Bool} {m : Nat} (h0 : s = true → m ≠ 0) (h : inC (sv s m) = true) : i64q s m = true := by
  have := (inC_iff _).1 h
  unfold i64q
  cases s
  · simp; omega
  · have := h0 rfl
    simp [this]; omega
theorem rI_same (x : Int) (h : x.natAbs ≤ 9223372036854775808) : (rI x h).s = decide (x < 0) ∧ (rI x h).m = x.natAbs ∧ (rI x h).t = false ∧ (rI x h).k = 1 := by
  refine ⟨?_, ?_, rfl, ?_⟩
  · show decide ((x : Rat).num < 0) = _; rw [Rat.num_intCast]
  · show (x : Rat).num.natAbs = _; rw [Rat.num_intCast]
  · show (x : Rat).den = 1; rw [Rat.den_intCast]
theorem sv_back (s : Bool) (m : Nat) (h0 : s = true → m ≠ 0) : decide (sv s m < 0) = s ∧ (sv s m).natAbs = m := by
  cases s
  · rw [sv_false, Int.natAbs_natCast]; exact ⟨by simp, rfl⟩
  · have := h0 rfl; simp [sv]; omega
theorem i64q_iff (s : Bool) (m : Nat) : i64q s m = true ↔ (s = true → m ≠ 0) ∧ -9223372036854775808 ≤ sv s m ∧ sv s m ≤ 9223372036854775807 := by
  unfold i64q; cases s <;> simp [and_assoc]
theorem okR_one (r : Rt) (h0 : r.s = true → r.m ≠ 0) (ht : r.t = false) (hk : r.k = 1) : r.ok = true := by
  unfold Rt.ok; rw [okR_iff]; exact ⟨h0, ht, by omega, by rw [hk]; simp⟩
theorem ptGrid_any (a b : Rt) (w : World) :
    Calls Tryz.prog 10 #[pV a b] w fun e w' => e = .returned (.tuple #[ndV (if gridQ a b then sv a.s a.m else 0) (if gridQ a b then sv b.s b.m else 0), .bool (gridQ a b)]) ∧ Ext w w' := by
  have S1 := fun w => limbSmall_any a.s a.m a.hm w
  have S2 := fun w => limbSmall_any b.s b.m b.hm w
  have hn : ∀ (P : Prop), (gridQ a b = true → P) → ¬ P → gridQ a b = false := fun P h hp => by
    cases hg : gridQ a b with
    | false => rfl
    | true => exact absurd (h hg) hp
  have rng : ∀ s m, -9223372036854775808 ≤ (if i64q s m = true then sv s m else 0) ∧ (if i64q s m = true then sv s m else 0) ≤ 9223372036854775807 := fun s m => by
    cases h : i64q s m with
    | false => rw [if_neg (by decide)]; exact ⟨by decide, by decide⟩
    | true => rw [if_pos rfl]; exact ((i64q_iff s m).1 h).2
  have rx := rng a.s a.m
  have ry := rng b.s b.m
  generalize hx : (if i64q a.s a.m = true then sv a.s a.m else 0) = x at S1 rx
  generalize hy : (if i64q b.s b.m = true then sv b.s b.m else 0) = y at S2 ry
  have OF := fun w => ptOf_any x y rx.1 rx.2 ry.1 ry.2 w
  have hk : gridQ a b = true → (i64q a.s a.m = true ∧ i64q b.s b.m = true) := fun hg => by
    obtain ⟨h1, h2, h3, h4, h5, h6⟩ := (gridQ_iff a b).1 hg
    exact ⟨inC_i64q ((okR_iff _ _ _ _).1 h1).1 h5, inC_i64q ((okR_iff _ _ _ _).1 h2).1 h6⟩
  obtain ⟨X, Y, e, OF, he⟩ : ∃ X Y e, (∀ w, Calls Tryz.prog 9 #[ndV x y] w fun e' w' => e' = .returned (.tuple #[pV X Y, .int .i64 e]) ∧ Ext w w') ∧
      ((inC x && inC y) = true ∧ e = 0 ∧ X = rI x (by omega) ∧ Y = rI y (by omega) ∨ (inC x && inC y) = false ∧ e = 2) := by
    cases hc : (inC x && inC y) with
    | false => rw [hc] at OF; exact ⟨zRt, zRt, 2, (by rw [← pZ_z]; exact OF), .inr ⟨rfl, rfl⟩⟩
    | true => rw [hc] at OF; exact ⟨_, _, 0, OF, .inl ⟨rfl, rfl, rfl, rfl⟩⟩
  cases hp : i64q a.s a.m with
  | false =>
    rw [hn _ hk (by rw [hp]; simp)]
    rw [hp] at S1
    exact ptGrid_1 x y a b X Y _ _ e S1 S2 OF rfl w
  | true =>
    cases hq : i64q b.s b.m with
    | false =>
      rw [hn _ hk (by rw [hq]; simp)]
      rw [hp] at S1; rw [hq] at S2
      exact ptGrid_2 x y a b X Y _ _ e S1 S2 OF rfl rfl w
    | true =>
      have hx' : x = sv a.s a.m := by rw [← hx, hp, if_pos rfl]
      have hy' : y = sv b.s b.m := by rw [← hy, hq, if_pos rfl]
      rw [hp] at S1; rw [hq] at S2
      rcases he with ⟨hc, rfl, rfl, rfl⟩ | ⟨hc, rfl⟩
      · skip
        obtain ⟨q1, q2, q3, q4⟩ := rI_same x (by omega)
        obtain ⟨q5, q6, q7, q8⟩ := rI_same y (by omega)
        have a0 := ((i64q_iff _ _).1 hp).1
        have b0 := ((i64q_iff _ _).1 hq).1
        have sa := sv_back a.s a.m a0
        have sb := sv_back b.s b.m b0
        rw [← hx'] at sa; rw [← hy'] at sb
        have hc' : inC x = true ∧ inC y = true := by simpa using hc
        have hg : gridQ a b = ((decide (a.s = a.s ∧ a.m = a.m) && decide (false = a.t ∧ 1 = a.k)) && (decide (b.s = b.s ∧ b.m = b.m) && decide (false = b.t ∧ 1 = b.k))) := by
          rw [Bool.eq_iff_iff, gridQ_iff, ← hx', ← hy']
          constructor
          · rintro ⟨h1, h2, h3, h4, _, _⟩
            have k1 := ((okR_iff _ _ _ _).1 h1).2.1
            have k2 := ((okR_iff _ _ _ _).1 h2).2.1
            simp [h3, h4, k1, k2]
          · intro h
            have h' : (a.t = false ∧ a.k = 1) ∧ (b.t = false ∧ b.k = 1) := by
              simp only [Bool.and_eq_true, decide_eq_true_eq] at h
              exact ⟨⟨h.1.2.1.symm, h.1.2.2.symm⟩, ⟨h.2.2.1.symm, h.2.2.2.symm⟩⟩
            exact ⟨okR_one a a0 h'.1.1 h'.1.2, okR_one b b0 h'.2.1 h'.2.2, h'.1.2, h'.2.2, hc'.1, hc'.2⟩
        have hg' : ((decide ((rI x (by omega)).s = a.s ∧ (rI x (by omega)).m = a.m) && decide ((rI x (by omega)).t = a.t ∧ (rI x (by omega)).k = a.k)) && (decide ((rI y (by omega)).s = b.s ∧ (rI y (by omega)).m = b.m) && decide ((rI y (by omega)).t = b.t ∧ (rI y (by omega)).k = b.k))) = gridQ a b := by
          rw [q1, q2, q3, q4, q5, q6, q7, q8, sa.1, sa.2, sb.1, sb.2]; exact hg.symm
        have EQ' : ∀ w, (Op.equalIn 10000 31 (pV (rI x (by omega)) (rI y (by omega))) (pV a b)).run Tryz.prog w = .ok (gridQ a b) w := fun w => by
          rw [run_eq_pt, hg']
        clear hg hg'
        cases hg : gridQ a b with
        | false => rw [hg] at EQ'; exact ptGrid_4 x y a b _ _ _ _ 0 S1 S2 OF rfl rfl rfl EQ' w
        | true =>
          rw [hg] at EQ'
          rw [if_pos rfl, if_pos rfl, ← hx', ← hy']
          exact ptGrid_5 x y a b _ _ _ _ 0 S1 S2 OF rfl rfl rfl EQ' w
      · rw [hn (inC x = true ∧ inC y = true) (fun hg => by
          obtain ⟨h1, h2, h3, h4, h5, h6⟩ := (gridQ_iff a b).1 hg
          rw [hx', hy']; exact ⟨h5, h6⟩) (fun h => by rw [h.1, h.2] at hc; cases hc)]
        exact ptGrid_3 x y a b X Y _ _ 2 S1 S2 OF rfl rfl rfl w
end Go.Proofs.YtmopgcbhmkemjaaGreatDoor
