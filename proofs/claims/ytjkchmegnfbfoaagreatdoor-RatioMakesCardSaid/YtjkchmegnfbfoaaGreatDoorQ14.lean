/- RatioMakes: the walk. RatioMakes answers true. -/
import Derived.Test.YtjkchmegnfbfoaaGreatDoorProg
import Derived.Test.YtjkchmegnfbfoaaGreatDoorQ13
import Derived.Test.YtjkchmegnfbfoaaGreatDoorQ10
namespace Go.Proofs.YtjkchmegnfbfoaaGreatDoor
open Go Go.RowKit
set_option linter.unusedSimpArgs false
set_option linter.unusedVariables false
set_option maxRecDepth 100000
set_option exponentiation.threshold 3000

set_option maxHeartbeats 16000000 in
theorem Makes_walk (x : Rt) (z no : Int) (s1 : Bool) (m1 : Nat) (s2 : Bool) (m2 : Nat) (hno : no = if x.ok then 0 else 2) (Z Q : Rat) (X Y : Int) (sz : Bool) (mz : Nat) (sm : Bool) (mm km : Nat) (zm : Int) (g1 g2 q3 t : Bool) (hgt : t = (g1 || g2 || q3))
    (RX : Ans 8 #[x.v] (.bool x.ok)) (NU : ∀ w, Calls Tryz.prog 10 #[.int .i64 z] w (RetB (fun W r => FrQ W r Z) w))
    (OU : ∀ v w, FrQ w v Z → Calls Tryz.prog 9 #[v] w fun e w' => e = .returned (.tuple #[ratV sz mz false 1, .int .i64 0]) ∧ Ext w w')
    (CM : AnsT 11 #[intV s1 m1, intV s2 m2] (.tuple #[ratV sm mm false km, .int .i64 zm])) (CK : Ans 13 #[x.v] (.int .i64 no)) (OF : Ans 14 #[.int .i64 z] (ratV sz mz false 1)) (EO : EqT 27 (ratV sz mz false 1) (ratV sz mz false 1))
    (RA : Ans 15 #[intV s1 m1] (.bool (!g1))) (RB : Ans 15 #[intV s2 m2] (.bool (!g2))) (EI : ∀ w, (Op.equalIn 10000 25 (intV s2 m2) iZ).run Tryz.prog w = .ok q3 w)
    (cr : t = true → Ans 16 #[ratV sm mm false km, .int .i64 zm] (.bool true))
    (FA : t = false → ∀ w, Calls Tryz.prog 20 #[intV s1 m1] w (RetB (fun W r => BigV W r X) w)) (FB : t = false → ∀ w, Calls Tryz.prog 20 #[intV s2 m2] w (RetB (fun W r => BigV W r Y) w))
    (MK : t = false → ∀ v1 v2 w, BigV w v1 X → BigV w v2 Y → Calls Tryz.prog 19 #[v1, v2] w (RetB (fun W r => FrQ W r Q) w))
    (AN : t = false → ∀ v w, FrQ w v Q → Calls Tryz.prog 18 #[ratV sm mm false km, .int .i64 zm, v] w fun e w' => e = .returned (.bool true) ∧ Ext w w')
    (w : World) (hT : Tab w) :
    Calls Tryz.prog 3 #[x.v, .int .i64 z, intV s1 m1, intV s2 m2] w fun e w' => e = .returned (.bool true) ∧ Ext w w' := by
  have hx : Ext w w := Ext.refl w
  have cw := works_true
  generalize x.ok = ok at *
  obtain ⟨s0, m0, u0', k0, _, _⟩ := x
  go_enter Tryz.func3, Tryz.ntmps3
  go_upto_if 15 with (go_at_call 8; (with_reducible refine (RX _).mono ?_); rintro e y1 ⟨rfl, hz_⟩; have hzz_ : Ext w y1 := Ext.trans (by repeat (first | (with_reducible exact Ext.refl _) | (with_reducible assumption) | (with_reducible apply Ext.grow) | (with_reducible apply Ext.alloc) | (with_reducible apply Ext.drew) | ((with_reducible apply Ext.set); (case hb => (first | omega | (simp; omega)))))) hz_; have BX : Blk y1 w.heap.size (ratsV s0 m0 u0' k0) 27 := Blk.ext (by repeat (first | (with_reducible assumption) | ((with_reducible refine Blk.new _ _ _ ?_); (simp; done)) | (with_reducible apply Blk.alloc) | (with_reducible apply Blk.grow) | (with_reducible apply Blk.drew) | (with_reducible apply Blk.set10) | (with_reducible apply Blk.set5) | (with_reducible apply Blk.set4) | (with_reducible apply Blk.tail4) | (with_reducible apply Blk.set2) | (with_reducible apply Blk.set1) | ((with_reducible apply Blk.setOther); (case hne => omega)))) hz_; have BA : Blk y1 (w.heap.size + 1) (ints1 s1 m1) 25 := Blk.ext (by repeat (first | (with_reducible assumption) | ((with_reducible refine Blk.new _ _ _ ?_); (simp; done)) | (with_reducible apply Blk.alloc) | (with_reducible apply Blk.grow) | (with_reducible apply Blk.drew) | (with_reducible apply Blk.set10) | (with_reducible apply Blk.set5) | (with_reducible apply Blk.set4) | (with_reducible apply Blk.tail4) | (with_reducible apply Blk.set2) | (with_reducible apply Blk.set1) | ((with_reducible apply Blk.setOther); (case hne => omega)))) hz_; have BB : Blk y1 (w.heap.size + 1 + 1) (ints1 s2 m2) 25 := Blk.ext (by repeat (first | (with_reducible assumption) | ((with_reducible refine Blk.new _ _ _ ?_); (simp; done)) | (with_reducible apply Blk.alloc) | (with_reducible apply Blk.grow) | (with_reducible apply Blk.drew) | (with_reducible apply Blk.set10) | (with_reducible apply Blk.set5) | (with_reducible apply Blk.set4) | (with_reducible apply Blk.tail4) | (with_reducible apply Blk.set2) | (with_reducible apply Blk.set1) | ((with_reducible apply Blk.setOther); (case hne => omega)))) hz_; replace hx := hx.trans hzz_; clear hz_ hzz_; have lBX := BX.lt; have cBX := BX.cell; have fBX := BX.frozen; have lBA := BA.lt; have cBA := BA.cell; have fBA := BA.frozen; have lBB := BB.lt; have cBB := BB.cell; have fBB := BB.frozen)
  --s1
  go_cut [9] (fun s z => s = .int .i64 no ∧ z = y1)
  case first =>
    subst hno
    cases ok with
    | false => go_wp2; go_meet; case rel => exact ⟨by simp, rfl⟩
    | true => go_wp2; go_meet; case rel => exact ⟨by simp, rfl⟩
  case rest =>
  obtain ⟨rfl, rfl⟩ := hcut
  clear hno RX
  --s2
  go_wp2_with (go_at_call 10; (with_reducible refine (NU _).mono ?_); rintro e y2 ⟨r, rfl, hr, hz_⟩; have hzz_ : Ext wc y2 := Ext.trans (by repeat (first | (with_reducible exact Ext.refl _) | (with_reducible assumption) | (with_reducible apply Ext.grow) | (with_reducible apply Ext.alloc) | (with_reducible apply Ext.drew) | ((with_reducible apply Ext.set); (case hb => (first | omega | (simp; omega)))))) hz_; replace BX := BX.ext hzz_; clear lBX cBX fBX; replace BA := BA.ext hzz_; clear lBA cBA fBA; replace BB := BB.ext hzz_; clear lBB cBB fBB; replace hx := hx.trans hzz_; clear hz_ hzz_; have lBX := BX.lt; have cBX := BX.cell; have fBX := BX.frozen; have lBA := BA.lt; have cBA := BA.cell; have fBA := BA.frozen; have lBB := BB.lt; have cBB := BB.cell; have fBB := BB.frozen)
  --s3
  go_wp2_with (go_at_call 9; (with_reducible refine (OU _ _ hr).mono ?_); rintro e y3 ⟨rfl, hz_⟩; have hzz_ : Ext y2 y3 := Ext.trans (by repeat (first | (with_reducible exact Ext.refl _) | (with_reducible assumption) | (with_reducible apply Ext.grow) | (with_reducible apply Ext.alloc) | (with_reducible apply Ext.drew) | ((with_reducible apply Ext.set); (case hb => (first | omega | (simp; omega)))))) hz_; replace BX := BX.ext hzz_; clear lBX cBX fBX; replace BA := BA.ext hzz_; clear lBA cBA fBA; replace BB := BB.ext hzz_; clear lBB cBB fBB; replace hx := hx.trans hzz_; clear hz_ hzz_; have lBX := BX.lt; have cBX := BX.cell; have fBX := BX.frozen; have lBA := BA.lt; have cBA := BA.cell; have fBA := BA.frozen; have lBB := BB.lt; have cBB := BB.cell; have fBB := BB.frozen)
  clear hr NU OU
  go_upto_region 6 with (go_at_call 11; (with_reducible refine (CM _ (hT.ext (hx.trans (by repeat (first | (with_reducible exact Ext.refl _) | (with_reducible assumption) | (with_reducible apply Ext.grow) | (with_reducible apply Ext.alloc) | (with_reducible apply Ext.drew) | ((with_reducible apply Ext.set); (case hb => (first | omega | (simp; omega))))))))).mono ?_); rintro e y4 ⟨rfl, hz_⟩; have hzz_ : Ext y3 y4 := Ext.trans (by repeat (first | (with_reducible exact Ext.refl _) | (with_reducible assumption) | (with_reducible apply Ext.grow) | (with_reducible apply Ext.alloc) | (with_reducible apply Ext.drew) | ((with_reducible apply Ext.set); (case hb => (first | omega | (simp; omega)))))) hz_; have BY : Blk y4 y3.heap.size (ratsV sz mz false 1) 27 := Blk.ext (by repeat (first | (with_reducible assumption) | ((with_reducible refine Blk.new _ _ _ ?_); (simp; done)) | (with_reducible apply Blk.alloc) | (with_reducible apply Blk.grow) | (with_reducible apply Blk.drew) | (with_reducible apply Blk.set10) | (with_reducible apply Blk.set5) | (with_reducible apply Blk.set4) | (with_reducible apply Blk.tail4) | (with_reducible apply Blk.set2) | (with_reducible apply Blk.set1) | ((with_reducible apply Blk.setOther); (case hne => omega)))) hz_)
  refine wp_rebase fun v hv => ?_
  have hzv : Ext y4 v := by rw [hv]; exact (by repeat (first | (with_reducible exact Ext.refl _) | (with_reducible assumption) | (with_reducible apply Ext.grow) | (with_reducible apply Ext.alloc) | (with_reducible apply Ext.drew) | ((with_reducible apply Ext.set); (case hb => (first | omega | (simp; omega))))))
  have BM : Blk v y4.heap.size (ratsV sm mm false km) 27 := by rw [hv]; exact (by repeat (first | (with_reducible assumption) | ((with_reducible refine Blk.new _ _ _ ?_); (simp; done)) | (with_reducible apply Blk.alloc) | (with_reducible apply Blk.grow) | (with_reducible apply Blk.drew) | (with_reducible apply Blk.set10) | (with_reducible apply Blk.set5) | (with_reducible apply Blk.set4) | (with_reducible apply Blk.tail4) | (with_reducible apply Blk.set2) | (with_reducible apply Blk.set1) | ((with_reducible apply Blk.setOther); (case hne => omega))))
  clear hv CM
  replace BX := (BX.ext hzz_).ext hzv; replace BA := (BA.ext hzz_).ext hzv; replace BB := (BB.ext hzz_).ext hzv; replace BY := BY.ext hzv; replace hx := (hx.trans hzz_).trans hzv
  clear hzz_ hzv hz_ lBX cBX fBX lBA cBA fBA lBB cBB fBB
  have lBX := BX.lt; have cBX := BX.cell; have fBX := BX.frozen; have lBA := BA.lt; have cBA := BA.cell; have fBA := BA.frozen; have lBB := BB.lt; have cBB := BB.cell; have fBB := BB.frozen; have lBY := BY.lt; have cBY := BY.cell; have fBY := BY.frozen; have lBM := BM.lt; have cBM := BM.cell; have fBM := BM.frozen
  --s3
  (first | refine wp_region_p (by kernel_rfl) ?_ | refine wp_region_p' (by kernel_rfl) ?_); refine wpAny_ph 0 6 [0, 3] [1, 2, 4, 5] [] (fun _ => .cells #[] 0) (by decide) (by kernel_rfl) (clo_first (Nat.le_of_ble_eq_true (by kernel_rfl)) (by kernel_rfl)) (fun j hj => by cases hj) ?_; simp only [List.map_cons, List.map_nil, List.getD_cons_succ, List.getD_cons_zero]; (refine wpG_l rfl (fun K hK => ?_); go_simp; refine hK _ ?_; clear hK K); (refine wpG_l rfl (fun K hK => ?_); go_simp; refine hK _ ?_; clear hK K); refine wpG_nil ?_; intro d0; have hx0 : Ext v (grow v d0) := ⟨d0, rfl⟩; generalize grow v d0 = y0 at *; (refine wpX_c rfl (fun t0 ht K hK => ?_); have hx0 := hx0.trans ht; go_simp; refine ⟨_, _, ⟨rfl, rfl⟩, ?_⟩; (with_reducible refine (CK _).mono ?_); rintro e y1 ⟨rfl, hz1⟩; have hx1 : Ext v y1 := hx0.trans hz1; refine ⟨_, rfl, hz1, hK _ _ ?_⟩; clear hK K); (refine wpX_c rfl (fun t1 ht K hK => ?_); have hx1 := hx1.trans ht; go_simp; refine ⟨_, _, ⟨rfl, rfl⟩, ?_⟩; (with_reducible refine (num_law _ _).mono ?_); rintro e y2 ⟨rfl, hz2⟩; have hz2 := Ext.of_eq hz2; have hx2 : Ext v y2 := hx1.trans hz2; refine ⟨_, rfl, hz2, hK _ _ ?_⟩; clear hK K); (refine wpX_v rfl (fun t2 ht K hK => ?_); have hx2 := hx2.trans ht; go_simp; refine ⟨_, _, ⟨rfl, rfl⟩, Ext.refl _, hK _ _ ?_⟩; clear hK K); (refine wpX_v rfl (fun t2 ht K hK => ?_); have hx2 := hx2.trans ht; go_simp; refine ⟨_, _, ⟨rfl, rfl⟩, Ext.refl _, hK _ _ ?_⟩; clear hK K); refine wpX_nil (fun y ht b hb => ?_); have hxv := hx2.trans ht; have hx := hx.trans hxv; simp only [fill]; clear hb; replace BX := BX.ext hxv; clear lBX cBX fBX; replace BA := BA.ext hxv; clear lBA cBA fBA; replace BB := BB.ext hxv; clear lBB cBB fBB; replace BY := BY.ext hxv; clear lBY cBY fBY; replace BM := BM.ext hxv; clear lBM cBM fBM; clear hxv ht b; obtain ⟨v, rfl⟩ : ∃ v', v' = y := ⟨_, rfl⟩; have lBX := BX.lt; have cBX := BX.cell; have fBX := BX.frozen; have lBA := BA.lt; have cBA := BA.cell; have fBA := BA.frozen; have lBB := BB.lt; have cBB := BB.cell; have fBB := BB.frozen; have lBY := BY.lt; have cBY := BY.cell; have fBY := BY.frozen; have lBM := BM.lt; have cBM := BM.cell; have fBM := BM.frozen; refine wpAny_at ?_; refine wpAny_ph 6 11 [6, 8] [7, 9, 10] [] (fun _ => .cells #[] 0) (by decide) (by kernel_rfl) (clo_first (Nat.le_of_ble_eq_true (by kernel_rfl)) (by kernel_rfl)) (fun j hj => by cases hj) ?_; simp only [List.map_cons, List.map_nil, List.getD_cons_succ, List.getD_cons_zero]; (first | (refine wpG_l ?_ (fun K hK => ?_); (· (simp [go_sem, Region.wanted, yielded]; done)); go_simp; refine hK _ ?_; clear hK K) | (refine wpG_s ?_ ?_; (· (simp [go_sem, Region.wanted, yielded]; done)))); (first | (refine wpG_l ?_ (fun K hK => ?_); (· (simp [go_sem, Region.wanted, yielded]; done)); go_simp; refine hK _ ?_; clear hK K) | (refine wpG_s ?_ ?_; (· (simp [go_sem, Region.wanted, yielded]; done)))); refine wpG_nil ?_; intro d0; have hx2 : Ext v (grow v d0) := ⟨d0, rfl⟩; generalize grow v d0 = y2 at *; (refine wpX_c ?_ (fun t2 ht K hK => ?_); (· (simp [go_sem, Region.wanted, yielded]; done)); have hx2 := hx2.trans ht; go_simp; refine ⟨_, _, ⟨rfl, rfl⟩, ?_⟩; (with_reducible refine (OF _).mono ?_); rintro e y3 ⟨rfl, hz3⟩; have hx3 : Ext v y3 := hx2.trans hz3; refine ⟨_, rfl, hz3, hK _ _ ?_⟩; clear hK K); (first | (refine wpX_v ?_ (fun t3 ht K hK => ?_); (· (simp [go_sem, Region.wanted, yielded]; done)); have hx3 := hx3.trans ht; go_simp; refine ⟨_, _, ⟨rfl, rfl⟩, Ext.refl _, hK _ _ ?_⟩; clear hK K) | (refine wpX_s ?_ (fun t3 ht => ?_); (· (simp [go_sem, Region.wanted, yielded]; done)); have hx3 := hx3.trans ht)); (refine wpX_v rfl (fun t3 ht K hK => ?_); have hx3 := hx3.trans ht; go_simp; refine ⟨_, _, ⟨rfl, rfl⟩, Ext.refl _, hK _ _ ?_⟩; clear hK K); refine wpX_nil (fun y ht b hb => ?_); have hxv := hx3.trans ht; have hx := hx.trans hxv; simp only [fill]; clear hb; replace BX := BX.ext hxv; clear lBX cBX fBX; replace BA := BA.ext hxv; clear lBA cBA fBA; replace BB := BB.ext hxv; clear lBB cBB fBB; replace BY := BY.ext hxv; clear lBY cBY fBY; replace BM := BM.ext hxv; clear lBM cBM fBM; clear hxv ht b; obtain ⟨v, rfl⟩ : ∃ v', v' = y := ⟨_, rfl⟩; have lBX := BX.lt; have cBX := BX.cell; have fBX := BX.frozen; have lBA := BA.lt; have cBA := BA.cell; have fBA := BA.frozen; have lBB := BB.lt; have cBB := BB.cell; have fBB := BB.frozen; have lBY := BY.lt; have cBY := BY.cell; have fBY := BY.frozen; have lBM := BM.lt; have cBM := BM.cell; have fBM := BM.frozen; refine wpAny_done (by kernel_rfl) ?_; simp only [List.drop_succ_cons, List.drop_zero, List.drop_nil]
  --s4
  clear CK OF EO
  go_upto_region 8 with fail
  refine wp_rebase fun v2 hv2 => ?_
  have hzv : Ext v v2 := by rw [hv2]; exact (by repeat (first | (with_reducible exact Ext.refl _) | (with_reducible assumption) | (with_reducible apply Ext.grow) | (with_reducible apply Ext.alloc) | (with_reducible apply Ext.drew) | ((with_reducible apply Ext.set); (case hb => (first | omega | (simp; omega))))))
  clear hv2
  replace BA := BA.ext hzv; replace BB := BB.ext hzv; replace BM := BM.ext hzv; replace hx := hx.trans hzv
  clear hzv BX BY lBX cBX fBX lBA cBA fBA lBB cBB fBB lBY cBY fBY lBM cBM fBM
  have lBA := BA.lt; have cBA := BA.cell; have fBA := BA.frozen; have lBB := BB.lt; have cBB := BB.cell; have fBB := BB.frozen; have lBM := BM.lt; have cBM := BM.cell; have fBM := BM.frozen
  --s5
  go_cut [51] (fun s z => s = .bool t ∧ Ext v2 z)
  case first =>
    cases g1 with
    | true =>
      subst hgt
      go_wp2_with (go_at_call 15; (with_reducible refine (RA _).mono ?_); rintro e z ⟨rfl, hz⟩)
      go_meet
      case rel => exact ⟨by simp, hz⟩
    | false =>
      cases g2 with
      | true =>
        subst hgt
        go_wp2_with (first
          | (go_at_call 15; (with_reducible refine (RA _).mono ?_); rintro e z ⟨rfl, hz⟩; have BB2 := BB.ext hz; have lBB2 := BB2.lt; have cBB2 := BB2.cell; have fBB2 := BB2.frozen)
          | (go_at_call 15; (with_reducible refine (RB _).mono ?_); rintro e z2 ⟨rfl, hz2⟩))
        go_meet
        case rel => exact ⟨by simp, hz.trans hz2⟩
      | false =>
        have hgt' : t = q3 := by simpa using hgt
        subst hgt'
        clear hgt
        go_wp2_with (first
          | (go_at_call 15; (with_reducible refine (RA _).mono ?_); rintro e z ⟨rfl, hz⟩; have BB2 := BB.ext hz; have lBB2 := BB2.lt; have cBB2 := BB2.cell; have fBB2 := BB2.frozen)
          | (go_at_call 15; (with_reducible refine (RB _).mono ?_); rintro e z2 ⟨rfl, hz2⟩; have BB3 := BB2.ext hz2; have lBB3 := BB3.lt; have cBB3 := BB3.cell; have fBB3 := BB3.frozen))
        go_meet
        case rel => exact ⟨by simp, hz.trans hz2⟩
  case rest =>
  obtain ⟨rfl, hz⟩ := hcut
  replace BA := BA.ext hz; replace BB := BB.ext hz; replace BM := BM.ext hz; replace hx := hx.trans hz
  clear hz hgt RA RB EI lBA cBA fBA lBB cBB fBB lBM cBM fBM
  have lBA := BA.lt; have cBA := BA.cell; have fBA := BA.frozen; have lBB := BB.lt; have cBB := BB.cell; have fBB := BB.frozen; have lBM := BM.lt; have cBM := BM.cell; have fBM := BM.frozen
  --s6
  cases t with
  | true =>
    replace cr := cr rfl
    clear FA FB MK AN
    go_wp2_with (go_at_call 16; (with_reducible refine (cr _).mono ?_); rintro e x1 ⟨rfl, hz_⟩; have hzz_ : Ext wc x1 := Ext.trans (by repeat (first | (with_reducible exact Ext.refl _) | (with_reducible assumption) | (with_reducible apply Ext.grow) | (with_reducible apply Ext.alloc) | (with_reducible apply Ext.drew) | ((with_reducible apply Ext.set); (case hb => (first | omega | (simp; omega)))))) hz_; replace hx := hx.trans hzz_; clear hz_ hzz_)
    go_wp2_with (go_at_call 17; (with_reducible refine (cw _ (hT.ext (hx.trans (by repeat (first | (with_reducible exact Ext.refl _) | (with_reducible assumption) | (with_reducible apply Ext.grow) | (with_reducible apply Ext.alloc) | (with_reducible apply Ext.drew) | ((with_reducible apply Ext.set); (case hb => (first | omega | (simp; omega))))))))).mono ?_); rintro e x2 ⟨rfl, hz_⟩; have hzz_ : Ext x1 x2 := Ext.trans (by repeat (first | (with_reducible exact Ext.refl _) | (with_reducible assumption) | (with_reducible apply Ext.grow) | (with_reducible apply Ext.alloc) | (with_reducible apply Ext.drew) | ((with_reducible apply Ext.set); (case hb => (first | omega | (simp; omega)))))) hz_; replace hx := hx.trans hzz_; clear hz_ hzz_)
    exact bodyPost_ret (v := .bool true) (by simp [results, Tryz.results3, go_sem]) rfl ⟨rfl, hx⟩
  | false =>
    replace FA := FA rfl; replace FB := FB rfl; replace MK := MK rfl; replace AN := AN rfl
    clear cr
    obtain ⟨v, rfl⟩ : ∃ v', v' = wc := ⟨_, rfl⟩
    --s7
    go_upto_region 10 with fail
    (first | refine wp_region_p (by kernel_rfl) ?_ | refine wp_region_p' (by kernel_rfl) ?_); refine wpAny_ph 0 12 [0, 1, 2, 4] [3, 5, 6, 7, 8, 9, 10, 11] [] (fun _ => .cells #[] 0) (by decide) (by kernel_rfl) (clo_first (Nat.le_of_ble_eq_true (by kernel_rfl)) (by kernel_rfl)) (fun j hj => by cases hj) ?_; simp only [List.map_cons, List.map_nil, List.getD_cons_succ, List.getD_cons_zero]; (refine wpG_l rfl (fun K hK => ?_); go_simp; refine hK _ ?_; clear hK K); (refine wpG_l rfl (fun K hK => ?_); go_simp; refine hK _ ?_; clear hK K); (refine wpG_l rfl (fun K hK => ?_); go_simp; refine hK _ ?_; clear hK K); (refine wpG_l rfl (fun K hK => ?_); go_simp; refine hK _ ?_; clear hK K); refine wpG_nil ?_; intro d0; have hx0 : Ext v (grow v d0) := ⟨d0, rfl⟩; generalize grow v d0 = y0 at *; (refine wpX_c rfl (fun t0 ht K hK => ?_); have hx0 := hx0.trans ht; go_simp; refine ⟨_, _, ⟨rfl, rfl⟩, ?_⟩; (with_reducible refine (FA _).mono ?_); rintro e y1 ⟨r1, rfl, hr1, hz1⟩; have hx1 : Ext v y1 := hx0.trans hz1; obtain ⟨s1, a1, n1, c1, rfl, e1, k1⟩ := hr1.opened; refine ⟨_, rfl, hz1, hK _ _ ?_⟩; clear hK K); (refine wpX_c rfl (fun t1 ht K hK => ?_); have hx1 := hx1.trans ht; have hr1 := hr1.ext ht; go_simp; refine ⟨_, _, ⟨rfl, rfl⟩, ?_⟩; (with_reducible refine (FB _).mono ?_); rintro e y2 ⟨r2, rfl, hr2, hz2⟩; have hx2 : Ext v y2 := hx1.trans hz2; have hr1 := hr1.ext hz2; obtain ⟨s2, a2, n2, c2, rfl, e2, k2⟩ := hr2.opened; refine ⟨_, rfl, hz2, hK _ _ ?_⟩; clear hK K); (refine wpX_c rfl (fun t2 ht K hK => ?_); have hx2 := hx2.trans ht; have hr1 := hr1.ext ht; have hr2 := hr2.ext ht; go_simp; refine ⟨_, _, ⟨rfl, rfl⟩, ?_⟩; (with_reducible refine (MK _ _ _ hr1 hr2).mono ?_); rintro e y3 ⟨r3, rfl, hr3, hz3⟩; have hx3 : Ext v y3 := hx2.trans hz3; have hr1 := hr1.ext hz3; have hr2 := hr2.ext hz3; refine ⟨_, rfl, hz3, hK _ _ ?_⟩; clear hK K); (refine wpX_c rfl (fun t3 ht K hK => ?_); have hx3 := hx3.trans ht; have hr1 := hr1.ext ht; have hr2 := hr2.ext ht; have hr3 := hr3.ext ht; go_simp; refine ⟨_, _, ⟨rfl, rfl⟩, ?_⟩; (with_reducible refine (AN _ _ hr3).mono ?_); rintro e y4 ⟨rfl, hz4⟩; have hx4 : Ext v y4 := hx3.trans hz4; have hr1 := hr1.ext hz4; have hr2 := hr2.ext hz4; have hr3 := hr3.ext hz4; refine ⟨_, rfl, hz4, hK _ _ ?_⟩; clear hK K); (refine wpX_v rfl (fun t4 ht K hK => ?_); have hx4 := hx4.trans ht; have hr1 := hr1.ext ht; have hr2 := hr2.ext ht; have hr3 := hr3.ext ht; go_simp; refine ⟨_, _, ⟨rfl, rfl⟩, Ext.refl _, hK _ _ ?_⟩; clear hK K); (refine wpX_c ?_ (fun t4 ht K hK => ?_); (· (simp [go_sem, Region.wanted, yielded]; done)); have hx4 := hx4.trans ht; have hr1 := hr1.ext ht; have hr2 := hr2.ext ht; have hr3 := hr3.ext ht; go_simp; refine ⟨_, _, ⟨rfl, rfl⟩, ?_⟩; (with_reducible refine (cw _ (hT.ext (hx.trans hx4))).mono ?_); rintro e y5 ⟨rfl, hz5⟩; have hx5 : Ext v y5 := hx4.trans hz5; have hr1 := hr1.ext hz5; have hr2 := hr2.ext hz5; have hr3 := hr3.ext hz5; refine ⟨_, rfl, hz5, hK _ _ ?_⟩; clear hK K); (refine wpX_v rfl (fun t5 ht K hK => ?_); have hx5 := hx5.trans ht; have hr1 := hr1.ext ht; have hr2 := hr2.ext ht; have hr3 := hr3.ext ht; go_simp; refine ⟨_, _, ⟨rfl, rfl⟩, Ext.refl _, hK _ _ ?_⟩; clear hK K); (refine wpX_v rfl (fun t5 ht K hK => ?_); have hx5 := hx5.trans ht; have hr1 := hr1.ext ht; have hr2 := hr2.ext ht; have hr3 := hr3.ext ht; go_simp; refine ⟨_, _, ⟨rfl, rfl⟩, Ext.refl _, hK _ _ ?_⟩; clear hK K); refine wpX_nil (fun y ht b hb => ?_); have hxv := hx5.trans ht; have hx := hx.trans hxv; have hr1 := hr1.ext ht; have hr2 := hr2.ext ht; have hr3 := hr3.ext ht; simp only [fill]; clear hb; replace BA := BA.ext hxv; clear lBA cBA fBA; replace BB := BB.ext hxv; clear lBB cBB fBB; replace BM := BM.ext hxv; clear lBM cBM fBM; clear hxv ht b; obtain ⟨v, rfl⟩ : ∃ v', v' = y := ⟨_, rfl⟩; have lBA := BA.lt; have cBA := BA.cell; have fBA := BA.frozen; have lBB := BB.lt; have cBB := BB.cell; have fBB := BB.frozen; have lBM := BM.lt; have cBM := BM.cell; have fBM := BM.frozen; refine wpAny_done (by kernel_rfl) ?_; simp only [List.drop_succ_cons, List.drop_zero, List.drop_nil]
    --s8
    go_wp2
    exact bodyPost_ret (v := .bool true) (by simp [results, Tryz.results3, go_sem]) rfl ⟨rfl, hx⟩
end Go.Proofs.YtjkchmegnfbfoaaGreatDoor

namespace Go.Proofs.YtjkchmegnfbfoaaGreatDoor
open Go Go.RowKit
set_option linter.unusedSimpArgs false
set_option linter.unusedVariables false
set_option maxRecDepth 100000
set_option exponentiation.threshold 3000

theorem rOf_word (z : Int) (h1 : -9223372036854775808 ≤ z) (h2 : z ≤ 9223372036854775807) : Ans 14 #[.int .i64 z] (ratV (decide (z < 0)) z.natAbs false 1) := fun w => by
  by_cases h : z < 0
  · obtain ⟨k, rfl⟩ : ∃ k : Nat, z = -(k : Int) := ⟨z.natAbs, by omega⟩
    have e : decide (-(k : Int) < 0) = true := by simpa using h
    rw [e, Int.natAbs_neg, Int.natAbs_natCast]
    exact rOf_at _ true k (fun w => Of_neg k (by omega) (by omega) w) w
  · obtain ⟨k, rfl⟩ : ∃ k : Nat, z = (k : Int) := ⟨z.toNat, by omega⟩
    have e : decide ((k : Int) < 0) = false := by simp
    rw [e, Int.natAbs_natCast]
    exact rOf_at _ false k (fun w => Of_nat k (by omega) w) w
theorem qV_word (z : Int) : qV (z : Rat) = ratV (decide (z < 0)) z.natAbs false 1 := by
  unfold qV; rw [Rat.num_intCast, Rat.den_intCast]
theorem word_fits (z : Int) (h1 : -9223372036854775808 ≤ z) (h2 : z ≤ 9223372036854775807) : Fits (z : Rat) := by
  refine ⟨?_, ?_⟩
  · rw [Rat.num_intCast]; exact Nat.lt_trans (by rw [B_eq]; omega : z.natAbs < B) B_lt_B4
  · rw [Rat.den_intCast]; exact Nat.lt_trans (by rw [B_eq]; omega : 1 < B) B_lt_B4
theorem sv_badI (s : Bool) (m : Nat) (h : badI s m = false) : intV s m = intZ (sv s m) ∧ (sv s m).natAbs = m := by
  refine ⟨?_, sv_natAbs s m⟩
  show intV s m = intV (decide (sv s m < 0)) (sv s m).natAbs
  rw [sv_natAbs]
  congr 1
  unfold badI at h
  cases s with
  | false => simp [sv]
  | true => have : m ≠ 0 := by simpa using h
            simp [sv]; omega
theorem makes_true (x : Rt) (z : Int) (l1 : -9223372036854775808 ≤ z) (l2 : z ≤ 9223372036854775807) (s1 : Bool) (m1 : Nat) (h1 : m1 < B4) (s2 : Bool) (m2 : Nat) (h2 : m2 < B4) (w : World) (hT : Tab w) :
    Calls Tryz.prog 3 #[x.v, .int .i64 z, intV s1 m1, intV s2 m2] w fun e w' => e = .returned (.bool true) ∧ Ext w w' := by
  have fz := word_fits z l1 l2
  have NU : ∀ w, Calls Tryz.prog 10 #[.int .i64 z] w (RetB (fun W r => FrQ W r (z : Rat)) w) := fun w => by
    have := fNum z l1 (by omega) w
    rw [show FrQ = fun W v q => FrV W v q.num (q.den : Int) from rfl]
    simp only [Rat.num_intCast, Rat.den_intCast]; exact this
  have OU : ∀ v w, FrQ w v (z : Rat) → Calls Tryz.prog 9 #[v] w fun e w' => e = .returned (.tuple #[ratV (decide (z < 0)) z.natAbs false 1, .int .i64 0]) ∧ Ext w w' := fun v w h => by
    have := fOut_fits (z : Rat) v fz w h
    rwa [qV_word] at this
  have CK : Ans 13 #[x.v] (.int .i64 (if x.ok then 0 else 2)) := fun w => by
    cases h : x.ok with
    | true => exact rcheck_yes x.s x.m x.t x.k x.hm x.hk h w
    | false => exact rcheck_no x.s x.m x.t x.k x.hm x.hk h w
  have EO : EqT 27 (ratV (decide (z < 0)) z.natAbs false 1) (ratV (decide (z < 0)) z.natAbs false 1) := by
    rw [← qV_word]; exact eqT_q _ _ fz fz rfl
  have EI : ∀ w, (Op.equalIn 10000 25 (intV s2 m2) iZ).run Tryz.prog w = .ok (decide (s2 = false ∧ m2 = 0)) w := fun w => by
    rw [show iZ = intV false 0 from iZ_eq]; exact run_eq_int s2 m2 false 0 h2 B4_pos w
  by_cases hb : (badI s1 m1 || badI s2 m2 || decide (s2 = false ∧ m2 = 0)) = true
  · refine Makes_walk x z _ s1 m1 s2 m2 rfl (z : Rat) 0 0 0 (decide (z < 0)) z.natAbs false 0 0 2 (badI s1 m1) (badI s2 m2) _ true hb.symm (fun w => fRight x w) NU OU ?_ CK (rOf_word z l1 l2) EO (fun w => bRight s1 m1 h1 w) (fun w => bRight s2 m2 h2 w) EI (fun _ w => refused_true w) (fun h => by cases h) (fun h => by cases h) (fun h => by cases h) (fun h => by cases h) w hT
    intro w hT
    rw [← qZ_eq]
    cases g1 : badI s1 m1 with
    | true => exact Make_bad1 s1 m1 s2 m2 h1 h2 w hT g1
    | false =>
      cases g2 : badI s2 m2 with
      | true => exact Make_bad2 s1 m1 s2 m2 h1 h2 w hT g1 g2
      | false =>
        rw [g1, g2] at hb
        have : s2 = false ∧ m2 = 0 := by simpa using hb
        exact Make_bad3 s1 m1 s2 m2 h1 h2 w hT g1 g2 this.2
  · have hb' : (badI s1 m1 || badI s2 m2 || decide (s2 = false ∧ m2 = 0)) = false := by simpa using hb
    obtain ⟨⟨g1, g2⟩, g3⟩ : (badI s1 m1 = false ∧ badI s2 m2 = false) ∧ decide (s2 = false ∧ m2 = 0) = false := by simpa [Bool.or_eq_false_iff] using hb'
    obtain ⟨v1, n1⟩ := sv_badI s1 m1 g1
    obtain ⟨v2, n2⟩ := sv_badI s2 m2 g2
    have h0 : m2 ≠ 0 := fun e => by
      subst e
      cases s2 with
      | false => simp at g3
      | true => simp [badI] at g2
    have h0' : sv s2 m2 ≠ 0 := fun e => h0 (by rw [← n2, e]; rfl)
    have b1 : (sv s1 m1).natAbs < B4 := by omega
    have b2 : (sv s2 m2).natAbs < B4 := by omega
    have hf := divInt_fits (sv s1 m1) (sv s2 m2) h0' b1 b2
    have e := res_fit hf
    have hB : B4 ≤ 2 ^ 520 := by decide
    have hs := divInt_small (sv s1 m1) (sv s2 m2) h0' (Nat.lt_of_lt_of_le b1 hB) (Nat.lt_of_lt_of_le b2 hB)
    refine Makes_walk x z _ s1 m1 s2 m2 rfl (z : Rat) (Rat.divInt (sv s1 m1) (sv s2 m2)) (sv s1 m1) (sv s2 m2) (decide (z < 0)) z.natAbs (rS (Rat.divInt (sv s1 m1) (sv s2 m2))) (rM (Rat.divInt (sv s1 m1) (sv s2 m2))) (rK (Rat.divInt (sv s1 m1) (sv s2 m2))) (rZ (Rat.divInt (sv s1 m1) (sv s2 m2))) (badI s1 m1) (badI s2 m2) _ false hb'.symm (fun w => fRight x w) NU OU ?_ CK (rOf_word z l1 l2) EO (fun w => bRight s1 m1 h1 w) (fun w => bRight s2 m2 h2 w) EI (fun h => by cases h) (fun _ w => bFrom s1 m1 h1 w) (fun _ w => bFrom s2 m2 h2 w) (fun _ p1 p2 w k1 k2 => fMake (2 ^ 520) (Nat.le_refl _) quo_all _ _ p1 p2 (Nat.lt_of_lt_of_le b1 hB) (Nat.lt_of_lt_of_le b2 hB) h0' w k1 k2) (fun _ v w h => answers_all _ hs.1 hs.2 v w h) w hT
    intro w hT
    rw [show ratV (rS (Rat.divInt (sv s1 m1) (sv s2 m2))) (rM (Rat.divInt (sv s1 m1) (sv s2 m2))) false (rK (Rat.divInt (sv s1 m1) (sv s2 m2))) = qV (Rat.divInt (sv s1 m1) (sv s2 m2)) from e.1, e.2, v1, v2]
    exact cMake_yes _ _ h0' b1 b2 w hT
end Go.Proofs.YtjkchmegnfbfoaaGreatDoor
